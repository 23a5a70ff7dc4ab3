/- Contracts of functions of the program (CoreH, CoreI, CoreJ, CoreK, CoreL, Tar, Liv, Buc, BuM, BKit): what each call answers and that it leaves memory as it was. Conditions: those each theorem names. -/
import Derived.Test.YtnamoapbienooaaCoreG
import Derived.Maps.RangeRun
set_option linter.unusedSectionVars false
set_option linter.unusedSimpArgs false
set_option linter.unusedVariables false
set_option linter.unnecessarySimpa false
namespace Go.Lx
open Go.RowKit
section
variable {P : Program} {base : World} {ρ : Env} {O : List Item} {dst : Option Nat} {t : TypeId} {p : String} {af : Array Edge} {g : Option (Nat × Bool)}
theorem q_shl {x y : Operand} {T U : TypeId} {k k' : IntKind} {a b : Int} (hx : ev ρ x = .int k a) (hy : ev ρ y = .int k' b) (h0 : 0 ≤ b) : QT P base ⟨dst, .binOp .shl T x y U, t, p, af, g⟩ ρ O (.int k (k.wrap (a * 2 ^ (min b.toNat k.bits)))) := fun w _ => by
  have : ¬ b < 0 := by omega
  simp [execOp, hx, hy, eqGuard, binOp, Op.shift, this]
theorem q_shl1 {x y : Operand} {T U : TypeId} {k' : IntKind} {v : Nat} (hx : ev ρ x = .int .i64 1) (hy : ev ρ y = .int k' (v : Int)) (hv : v ≤ 60) : QT P base ⟨dst, .binOp .shl T x y U, t, p, af, g⟩ ρ O (.int .i64 ((2 ^ v : Nat) : Int)) := by
  have h := q_shl (P := P) (base := base) (O := O) (dst := dst) (t := t) (p := p) (af := af) (g := g) (T := T) (U := U) hx hy (by omega)
  have e : min (v : Int).toNat (IntKind.i64.bits) = v := by
    have : IntKind.i64.bits = 64 := rfl
    rw [this]; simp; omega
  rw [e] at h
  have hle : (2 : Nat) ^ v ≤ 2 ^ 60 := Nat.pow_le_pow_right (by omega) hv
  have h60 : (2 : Nat) ^ 60 = 1152921504606846976 := by rfl
  have e2 : (1 : Int) * 2 ^ v = ((2 ^ v : Nat) : Int) := by rw [Int.one_mul, Int.natCast_pow]; rfl
  rw [e2] at h
  rw [h60] at hle
  generalize (2 : Nat) ^ v = q at *
  rwa [wrap64_id (by omega)] at h
theorem q_rem {x y : Operand} {T U : TypeId} {k : IntKind} {a b : Int} (hx : ev ρ x = .int k a) (hy : ev ρ y = .int k b) (h0 : b ≠ 0) : QT P base ⟨dst, .binOp .rem T x y U, t, p, af, g⟩ ρ O (.int k (a.tmod b)) := fun w _ => by
  simp [execOp, hx, hy, eqGuard, binOp, Op.intDiv, h0]
theorem q_min {x y : Operand} {ats : Array TypeId} {k k' : IntKind} {a b : Int} (hx : ev ρ x = .int k a) (hy : ev ρ y = .int k' b) : QT P base ⟨dst, .call ⟨.builtin .min, #[x, y], ats⟩, t, p, af, g⟩ ρ O (.int k (if b < a then b else a)) := fun w _ => by
  simp [execOp, resolve, hx, hy, invoke, builtin, Builtin.min_, Builtin.min2]
theorem q_max {x y : Operand} {ats : Array TypeId} {k k' : IntKind} {a b : Int} (hx : ev ρ x = .int k a) (hy : ev ρ y = .int k' b) : QT P base ⟨dst, .call ⟨.builtin .max, #[x, y], ats⟩, t, p, af, g⟩ ρ O (.int k (if b > a then b else a)) := fun w _ => by
  simp [execOp, resolve, hx, hy, invoke, builtin, Builtin.max_, Builtin.max2]
def str (l : List UInt8) : Value := .string ⟨l.toArray⟩
theorem q_lenStr {x : Operand} {T : TypeId} {l : List UInt8} (hu : P.underlying T = some .string) (hx : ev ρ x = str l) : QT P base ⟨dst, .call ⟨.builtin .len, #[x], #[T]⟩, t, p, af, g⟩ ρ O (.int .i64 (l.length : Int)) := fun w _ => by
  have e : (ByteArray.mk l.toArray).size = l.length := by show l.toArray.size = _; simp
  simp [execOp, resolve, hx, str, invoke, builtin, Builtin.len_, run_underlying' hu, goInt, e]
abbrev cells8 (l : List UInt8) : List Value := l.map fun b : UInt8 => Value.int .u8 (b.toNat : Int)
theorem cells8_one (l : List UInt8) : ((cells8 l).all oneB) = true := by simp [oneB]
theorem run_b2s {w : World} {b : Option Addr} {n c : Nat} {l : List UInt8} (h : Sl w b (cells8 l)) (hl : l.length = n) : (Conv.bytesToString (.slice b n c)).run P w = .ok (str l) w := by
  subst hl
  cases b with
  | none =>
    have : l = [] := by
      cases l with
      | nil => rfl
      | cons a l => obtain ⟨_, h1, _⟩ := h 0 (by simp); cases h1
    subst this; rfl
  | some a =>
    obtain ⟨k, o, sp⟩ := a
    have hl := firstCells_run (P := P) (c := c) (m := l.length) (s := 1) h (by simp) (by simp)
    simp only [Builtin.firstCells, Nat.mul_one] at hl
    have fold : ∀ (l : List UInt8) (acc : ByteArray), List.foldl (fun (b : ByteArray) (a : UInt8) => ByteArray.mk (b.data.push a)) acc l = ⟨(acc.data.toList ++ l).toArray⟩ := by
      intro l
      induction l with
      | nil => intro acc; simp
      | cons b l ih => intro acc; rw [List.foldl_cons, ih]; simp
    simp only [Conv.bytesToString, Sem.run_bind, hl, Result.andThen_ok]
    simp [cells8, ByteArray.push, fold, str]
theorem q_b2s {x : Operand} {S D E : TypeId} {b : Option Addr} {n c c' k : Nat} {l : List UInt8} (hs : P.underlying S = some (.slice E)) (hd : P.underlying D = some .string) (he : P.underlying E = some (.int .u8)) (hx : ev ρ x = .slice b n c)
    (hO : rowI b c' E k (cells8 l) ∈ O) (hl : l.length = n) : QT P base ⟨dst, .convert S D x, t, p, af, g⟩ ρ O (str l) := fun w hI => by
  simp [execOp, hx, convert, run_underlying' hs, run_underlying' hd, run_underlying' he, run_b2s (hI.slOf hO) hl]
def mapP {α β : Type} (K : α → Value) (V : β → Value) (m : Nat) (l : List (α × β)) (w : World) : Prop :=
  ∃ es clk, w.heap[m]? = some (.map es clk) ∧ es.toList.map (fun e => (e.key, e.val)) = (l.map fun q => (K q.1, V q.2)) ∧ (es.toList.map (·.born)).Nodup ∧ ∀ e ∈ es.toList, e.born < clk
def mapI {α β : Type} (K : α → Value) (V : β → Value) (m : Nat) (l : List (α × β)) : Item where
  blocks := [m]
  P := mapP K V m l
  loc := fun w w' h hp => by
    obtain ⟨es, clk, h1, h2⟩ := hp
    exact ⟨es, clk, by rw [h m (by simp)]; exact h1, h2⟩
def findL {α : Type} [DecidableEq α] (a : α) : List α → List MapEntry → Nat → Option (Nat × Value)
  | k :: ks, e :: es, i => if a = k then some (i, e.val) else findL a ks es (i + 1)
  | _, _, _ => none
structure KeyOk (P : Program) {α : Type} [DecidableEq α] (kt : TypeId) (K : α → Value) : Prop where
  check : ∀ e a w, (Instr.checkKey e 10000 kt (K a)).run P w = .ok () w
  find : ∀ (es : List MapEntry) (ks : List α) (a : α) (w : World), es.map (·.key) = ks.map K → (Instr.findKey kt (K a) es).run P w = .ok (findL a ks es 0) w
theorem KeyOk.int {kt : TypeId} {k : IntKind} (hu : P.underlying kt = some (.int k)) : KeyOk P kt (fun a : Int => Value.int .i64 a) where
  check := fun e a w => by
    show (Instr.checkKey e (9999 + 1) kt _).run P w = _
    rw [Instr.checkKey]
    simp [run_underlying' hu, str]
  find := fun es ks a w h => by
    have key : ∀ (es : List MapEntry) (ks : List Int) (i : Nat), es.map (·.key) = ks.map (fun a : Int => Value.int .i64 a) → Instr.findNow (.int k) (.int .i64 a) es i = some (findL a ks es i) := by
      intro es
      induction es with
      | nil => intro ks i h; cases ks <;> simp_all [Instr.findNow, findL]
      | cons e es ih =>
        intro ks i h
        cases ks with
        | nil => simp at h
        | cons b ks =>
          simp only [List.map_cons, List.cons.injEq] at h
          simp only [Instr.findNow, h.1, Instr.sameNow, if_true, findL]
          by_cases e : a = b
          · simp [e]
          · have : (a == b) = false := by simpa using e
            simp [this, e, ih ks (i + 1) h.2]
    simp [Instr.findKey, run_underlying' hu, key es ks 0 h]
theorem bytes_eq (a b : List UInt8) : ((⟨a.toArray⟩ : ByteArray) == ⟨b.toArray⟩) = decide (a = b) := by
  show (a.toArray == b.toArray) = _
  by_cases e : a = b
  · subst e; simp
  · simp [e]
theorem KeyOk.string {kt : TypeId} (hu : P.underlying kt = some .string) : KeyOk P kt str where
  check := fun e a w => by
    show (Instr.checkKey e (9999 + 1) kt _).run P w = _
    rw [Instr.checkKey]
    simp [run_underlying' hu, str]
  find := fun es ks a w h => by
    have key : ∀ (es : List MapEntry) (ks : List (List UInt8)) (i : Nat), es.map (·.key) = ks.map str → Instr.findNow .string (str a) es i = some (findL a ks es i) := by
      intro es
      induction es with
      | nil => intro ks i h; cases ks <;> simp_all [Instr.findNow, findL]
      | cons e es ih =>
        intro ks i h
        cases ks with
        | nil => simp at h
        | cons b ks =>
          simp only [List.map_cons, List.cons.injEq] at h
          simp only [Instr.findNow, h.1, Instr.sameNow, str, bytes_eq, findL]
          by_cases e : a = b
          · simp [e]
          · have := ih ks (i + 1) h.2
            simp only [str] at this
            simp [e, this]
    simp [Instr.findKey, run_underlying' hu, key es ks 0 h]
theorem findL_none {α : Type} [DecidableEq α] {a : α} : ∀ (ks : List α) (es : List MapEntry) (i : Nat), a ∉ ks → findL a ks es i = none
  | [], _, _, _ => rfl
  | k :: ks, [], _, _ => rfl
  | k :: ks, e :: es, i, h => by
    simp only [List.mem_cons, not_or] at h
    simp [findL, h.1, findL_none ks es (i + 1) h.2]
def lookL {α β : Type} [DecidableEq α] (a : α) : List (α × β) → Option β
  | [] => none
  | q :: l => if a = q.1 then some q.2 else lookL a l
theorem findL_look {α β : Type} [DecidableEq α] {K : α → Value} {V : β → Value} {a : α} : ∀ (l : List (α × β)) (es : List MapEntry) (i : Nat), es.map (fun e => (e.key, e.val)) = l.map (fun q => (K q.1, V q.2)) → (findL a (l.map Prod.fst) es i).map Prod.snd = (lookL a l).map V
  | [], es, i, h => by cases es <;> rfl
  | q :: l, [], i, h => by simp at h
  | q :: l, e :: es, i, h => by
    simp only [List.map_cons, List.cons.injEq, Prod.mk.injEq] at h
    simp only [List.map_cons, findL, lookL]
    by_cases e : a = q.1
    · simp [e, h.1.2]
    · simp only [e, if_false]; exact findL_look l es (i + 1) h.2
theorem keys_of {α β : Type} {K : α → Value} {V : β → Value} {es : List MapEntry} {l : List (α × β)} (h : es.map (fun e => (e.key, e.val)) = l.map (fun q => (K q.1, V q.2))) : es.map (·.key) = (l.map Prod.fst).map K := by
  have := congrArg (List.map Prod.fst) h
  simpa [Function.comp_def] using this
theorem q_lenMap {x : Operand} {T kt vt : TypeId} {m : Nat} {α β : Type} {K : α → Value} {V : β → Value} {l : List (α × β)} (hu : P.underlying T = some (.map kt vt)) (hx : ev ρ x = .map (some m)) (hO : mapI K V m l ∈ O) :
    QT P base ⟨dst, .call ⟨.builtin .len, #[x], #[T]⟩, t, p, af, g⟩ ρ O (.int .i64 (l.length : Int)) := fun w hI => by
  obtain ⟨es, clk, h1, h2, _⟩ := hI.holds _ hO
  have hl : es.size = l.length := by have := congrArg List.length h2; simpa using this
  simp [execOp, resolve, hx, invoke, builtin, Builtin.len_, run_underlying' hu, getObj, Sem.run, h1, goInt, hl]
theorem run_lookup {T kt vt : TypeId} {m : Nat} {α β : Type} [DecidableEq α] {K : α → Value} {V : β → Value} {l : List (α × β)} {z : Value} {s by_ : Nat} {w : World} (hu : P.underlying T = some (.map kt vt)) (hz : Inf P vt z s by_) (hk : KeyOk P kt K) (h : mapP K V m l w) (a : α) (ok : Bool) :
    (Instr.lookup T (.map (some m)) (K a) ok).run P w = .ok (if ok then .tuple #[((lookL a l).map V).getD z, .bool (lookL a l).isSome] else ((lookL a l).map V).getD z) w := by
  obtain ⟨es, clk, h1, h2, h3, h4⟩ := h
  have hf := hk.find es.toList (l.map Prod.fst) a w (keys_of h2)
  have hl := findL_look (a := a) l es.toList 0 h2
  have hg : (getObj m).run P w = .ok (.map es clk) w := by simp [getObj, Sem.run, h1]
  simp only [Instr.lookup, Sem.run_bind, run_underlying' hu, Result.andThen_ok, hg, Sem.run_pure, hk.check, hf]
  cases e : findL a (l.map Prod.fst) es.toList 0 with
  | none =>
    rw [e] at hl
    have : lookL a l = none := by cases e2 : lookL a l with | none => rfl | some v => rw [e2] at hl; cases hl
    simp [run_zeroValue' hz, this]
  | some q =>
    rw [e] at hl
    obtain ⟨i, v⟩ := q
    cases e2 : lookL a l with
    | none => rw [e2] at hl; cases hl
    | some u =>
      rw [e2] at hl
      simp at hl
      simp [hl]
theorem q_lookup {x y : Operand} {T kt vt : TypeId} {m : Nat} {α β : Type} [DecidableEq α] {K : α → Value} {V : β → Value} {l : List (α × β)} {z : Value} {s by_ : Nat} {a : α} (hu : P.underlying T = some (.map kt vt)) (hz : Inf P vt z s by_) (hk : KeyOk P kt K)
    (hx : ev ρ x = .map (some m)) (hy : ev ρ y = K a) (hO : mapI K V m l ∈ O) : QT P base ⟨dst, .lookup T x y false, t, p, af, g⟩ ρ O (((lookL a l).map V).getD z) := fun w hI => by
  have := run_lookup hu hz hk (hI.holds _ hO) a false
  simp [execOp, hx, hy, this]
theorem q_lookupOk {x y : Operand} {T kt vt : TypeId} {m : Nat} {α β : Type} [DecidableEq α] {K : α → Value} {V : β → Value} {l : List (α × β)} {z : Value} {s by_ : Nat} {a : α} (hu : P.underlying T = some (.map kt vt)) (hz : Inf P vt z s by_) (hk : KeyOk P kt K)
    (hx : ev ρ x = .map (some m)) (hy : ev ρ y = K a) (hO : mapI K V m l ∈ O) : QT P base ⟨dst, .lookup T x y true, t, p, af, g⟩ ρ O (.tuple #[((lookL a l).map V).getD z, .bool (lookL a l).isSome]) := fun w hI => by
  have := run_lookup hu hz hk (hI.holds _ hO) a true
  simp [execOp, hx, hy, this]
end
section
variable {P : Program} {r : Option Nat} {base : World} {n : Nat} {ρ : Env} {O : List Item} {K' : Env → List Item → Prop} {d : Nat} {t : TypeId} {p : String} {af : Array Edge} {g : Option (Nat × Bool)}
theorem l_makeMap {T : TypeId} {α β : Type} (K : α → Value) (V : β → Value) (h : ∀ m, K' (upd ρ d (.map (some m))) (mapI K V m [] :: O)) (hn : Nat.blt d n = true := by rfl) : LT P r base n ⟨some d, .makeMap T none, t, p, af, g⟩ ρ O K' :=
  LT.of_run hn fun w M hI => ⟨.map (some w.heap.size), w.alloc (.map #[] 0), _, by simp [execOp, Instr.makeMap], by
    refine Inv.new (O := O ++ M) (N := [mapI K V w.heap.size []]) (w' := w.alloc (.map #[] 0)) hI rfl rfl rfl (by simp) (fun b hb => Below.heap_alloc w _ b hb) ?_ ?_ (by simp [mapI])
    · intro x hx
      simp at hx; subst hx
      exact ⟨#[], 0, by show (w.heap.push _)[w.heap.size]? = _; simp, rfl, by simp, by simp⟩
    · intro x hx b hb
      simp at hx; subst hx
      simp [mapI] at hb; subst hb
      simp, h _⟩
theorem run_put {T kt vt : TypeId} {m : Nat} {α β : Type} [DecidableEq α] {K : α → Value} {V : β → Value} {l : List (α × β)} {w : World} {a : α} {v : β} (hu : P.underlying T = some (.map kt vt)) (hk : KeyOk P kt K) (h : mapP K V m l w) (hfresh : a ∉ l.map Prod.fst) :
    ∃ es clk, (Instr.mapUpdate T (.map (some m)) (K a) (V v)).run P w = .ok () (setB w m (.map es clk)) ∧ es.toList.map (fun e => (e.key, e.val)) = ((l ++ [(a, v)]).map fun q => (K q.1, V q.2)) ∧ (es.toList.map (·.born)).Nodup ∧ ∀ e ∈ es.toList, e.born < clk := by
  obtain ⟨es, clk, h1, h2, h3, h4⟩ := h
  have hf := hk.find es.toList (l.map Prod.fst) a w (keys_of h2)
  rw [findL_none _ _ _ hfresh] at hf
  have hg : (getObj m).run P w = .ok (.map es clk) w := by simp [getObj, Sem.run, h1]
  have hs : ∀ o, (setObj m o).run P w = .ok () (setB w m o) := fun o => by simp [setObj, Sem.run, h1, setB]
  refine ⟨es.push { key := K a, val := V v, born := clk }, clk + 1, ?_, by simp [h2], ?_, ?_⟩
  rotate_left
  · simp only [Array.toList_push, List.map_append, List.map_cons, List.map_nil, List.nodup_append]
    refine ⟨h3, by simp, fun x hx y hy e => ?_⟩
    obtain ⟨z, hz, rfl⟩ := List.mem_map.1 hx
    simp at hy; have := h4 z hz; omega
  · intro e he
    simp only [Array.toList_push, List.mem_append, List.mem_singleton] at he
    rcases he with he | rfl
    · have := h4 e he; omega
    · simp
  simp only [Instr.mapUpdate, Sem.run_bind, run_underlying' hu, Result.andThen_ok, hg, hk.check, hf, hs]
def putA {α β : Type} [DecidableEq α] (a : α) (v : β) : List (α × β) → List (α × β)
  | [] => [(a, v)]
  | q :: l => if a = q.1 then (q.1, v) :: l else q :: putA a v l
theorem findL_some {α β : Type} [DecidableEq α] {K : α → Value} {V : β → Value} {a : α} : ∀ (l : List (α × β)) (es : List MapEntry) (i : Nat), es.map (fun e => (e.key, e.val)) = l.map (fun q => (K q.1, V q.2)) → a ∈ l.map Prod.fst →
    ∃ j, j < es.length ∧ (∃ x, findL a (l.map Prod.fst) es i = some (i + j, x)) ∧ (es[j]?.map (·.key)) = some (K a) ∧ ∀ v, (es.modify j fun e => { e with key := K a, val := V v }).map (fun e => (e.key, e.val)) = (putA a v l).map fun q => (K q.1, V q.2)
  | [], es, i, h, ha => by simp at ha
  | q :: l, [], i, h, ha => by simp at h
  | q :: l, e :: es, i, h, ha => by
    simp only [List.map_cons, List.cons.injEq, Prod.mk.injEq] at h
    by_cases hq : a = q.1
    · refine ⟨0, by simp, ⟨e.val, by simp [findL, hq]⟩, by simp [h.1.1, hq], fun v => ?_⟩
      simp [putA, hq, h.2]
    · have ha' : a ∈ l.map Prod.fst := by
        rcases List.mem_cons.1 ha with e | ha
        · exact absurd e hq
        · exact ha
      obtain ⟨j, h1, ⟨x, h2⟩, h3, h4⟩ := findL_some (a := a) l es (i + 1) h.2 ha'
      refine ⟨j + 1, by simp [h1], ⟨x, ?_⟩, by simpa using h3, fun v => ?_⟩
      · simp only [List.map_cons, findL, if_neg hq, h2]
        congr 2; omega
      · simp only [List.modify_succ_cons, List.map_cons, putA, if_neg hq, h4 v, h.1.1, h.1.2]
theorem putA_new {α β : Type} [DecidableEq α] {a : α} {v : β} : ∀ {l : List (α × β)}, a ∉ l.map Prod.fst → putA a v l = l ++ [(a, v)]
  | [], _ => rfl
  | q :: l, h => by
    simp only [List.map_cons, List.mem_cons, not_or] at h
    simp only [putA, if_neg h.1, putA_new h.2, List.cons_append]
theorem run_putA {T kt vt : TypeId} {m : Nat} {α β : Type} [DecidableEq α] {K : α → Value} {V : β → Value} {l : List (α × β)} {w : World} {a : α} {v : β} (hu : P.underlying T = some (.map kt vt)) (hk : KeyOk P kt K) (hsb : Instr.sameBits 10000 (K a) (K a) = true) (h : mapP K V m l w) :
    ∃ es clk, (Instr.mapUpdate T (.map (some m)) (K a) (V v)).run P w = .ok () (setB w m (.map es clk)) ∧ es.toList.map (fun e => (e.key, e.val)) = ((putA a v l).map fun q => (K q.1, V q.2)) ∧ (es.toList.map (·.born)).Nodup ∧ ∀ e ∈ es.toList, e.born < clk := by
  by_cases ha : a ∈ l.map Prod.fst
  · obtain ⟨es, clk, h1, h2, h3, h4⟩ := h
    obtain ⟨j, hj, ⟨x, hf⟩, hkey, hput⟩ := findL_some (K := K) (V := V) l es.toList 0 h2 ha
    have hf' := hk.find es.toList (l.map Prod.fst) a w (keys_of h2)
    rw [hf, Nat.zero_add] at hf'
    have hg : (getObj m).run P w = .ok (.map es clk) w := by simp [getObj, Sem.run, h1]
    have hs : ∀ o, (setObj m o).run P w = .ok () (setB w m o) := fun o => by simp [setObj, Sem.run, h1, setB]
    have hjk : (es[j]?.map (·.key)).getD (K a) = K a := by
      have : es[j]? = es.toList[j]? := by simp
      rw [this, hkey]; rfl
    have hb : ∀ y ∈ (es.modify j fun e => { e with key := K a, val := V v }).toList.map (·.born), y ∈ es.toList.map (·.born) := fun y hy => by
      rw [Array.toList_modify] at hy
      have : (es.toList.modify j fun e => { e with key := K a, val := V v }).map (·.born) = es.toList.map (·.born) := by
        apply List.ext_getElem?; intro i
        simp only [List.getElem?_map, List.getElem?_modify]
        split <;> cases es.toList[i]? <;> rfl
      rwa [this] at hy
    have hbe : (es.modify j fun e => { e with key := K a, val := V v }).toList.map (·.born) = es.toList.map (·.born) := by
      rw [Array.toList_modify]
      apply List.ext_getElem?; intro i
      simp only [List.getElem?_map, List.getElem?_modify]
      split <;> cases es.toList[i]? <;> rfl
    refine ⟨es.modify j fun e => { e with key := K a, val := V v }, clk, ?_, ?_, by rw [hbe]; exact h3, fun e he => ?_⟩
    · simp only [Instr.mapUpdate, Sem.run_bind, run_underlying' hu, Result.andThen_ok, hg, hk.check, hf', hs, Instr.keyThatStays, hjk, hsb, if_true, Sem.run_pure]
    · rw [Array.toList_modify]; exact hput v
    · obtain ⟨z, hz, hze⟩ := List.mem_map.1 (hb _ (List.mem_map.2 ⟨e, he, rfl⟩))
      rw [← hze]; exact h4 z hz
  · rw [putA_new ha]; exact run_put hu hk h ha
theorem Inv.setMap {w : World} {M : List Item} {α β : Type} {K : α → Value} {V : β → Value} {m i : Nat} {l l' : List (α × β)} (hI : Inv base (O ++ M) w) (hO : O[i]? = some (mapI K V m l)) {es : Array MapEntry} {clk : Nat} (h : es.toList.map (fun e => (e.key, e.val)) = (l'.map fun q => (K q.1, V q.2)) ∧ (es.toList.map (·.born)).Nodup ∧ ∀ e ∈ es.toList, e.born < clk) :
    Inv base (O.set i (mapI K V m l') ++ M) (setB w m (.map es clk)) := by
  obtain ⟨es0, clk0, h1, _, _⟩ := hI.holds (mapI K V m l) (List.mem_append_left _ (List.mem_of_getElem? hO))
  have hlt := (Array.getElem?_eq_some_iff.1 h1).1
  rw [← set_app hO]
  exact hI.stepAt (at_app hO) rfl rfl rfl (by rw [setB_size]; exact Nat.le_refl _) (fun k _ hk => setB_other (fun e => hk (by simp [mapI, e]))) ⟨es, clk, setB_same hlt, h⟩ (fun k hk => .inl hk) (by simp [mapI])
theorem l_mapPutA (i : Nat) {x y z : Operand} {T kt vt : TypeId} {m : Nat} {α β : Type} [DecidableEq α] {K : α → Value} {V : β → Value} {l : List (α × β)} {a : α} {v : β} (hu : P.underlying T = some (.map kt vt)) (hk : KeyOk P kt K) (hsb : Instr.sameBits 10000 (K a) (K a) = true) (hx : ev ρ x = .map (some m)) (hy : ev ρ y = K a) (hz : ev ρ z = V v)
    (hO : O[i]? = some (mapI K V m l)) (h : K' ρ (O.set i (mapI K V m (putA a v l)))) : LT P r base n ⟨none, .mapUpdate T x y z, t, p, af, g⟩ ρ O K' :=
  LT.of_skip fun w M hI => by
    obtain ⟨es, clk, hr, hes⟩ := run_putA (v := v) hu hk hsb (hI.holds (mapI K V m l) (List.mem_append_left _ (List.mem_of_getElem? hO)))
    exact ⟨setB w m (.map es clk), _, by simp [execOp, hx, hy, hz, hr], hI.setMap hO hes, h⟩
theorem l_mapPut (i : Nat) {x y z : Operand} {T kt vt : TypeId} {m : Nat} {α β : Type} [DecidableEq α] {K : α → Value} {V : β → Value} {l : List (α × β)} {a : α} {v : β} (hu : P.underlying T = some (.map kt vt)) (hk : KeyOk P kt K) (hx : ev ρ x = .map (some m)) (hy : ev ρ y = K a) (hz : ev ρ z = V v)
    (hO : O[i]? = some (mapI K V m l)) (hfresh : a ∉ l.map Prod.fst) (h : K' ρ (O.set i (mapI K V m (l ++ [(a, v)])))) : LT P r base n ⟨none, .mapUpdate T x y z, t, p, af, g⟩ ρ O K' :=
  LT.of_skip fun w M hI => by
    obtain ⟨es, clk, hr, hes⟩ := run_put (v := v) hu hk (hI.holds (mapI K V m l) (List.mem_append_left _ (List.mem_of_getElem? hO))) hfresh
    exact ⟨setB w m (.map es clk), _, by simp [execOp, hx, hy, hz, hr], hI.setMap hO hes, h⟩
theorem l_mapInsert (i : Nat) {x y z : Operand} {T kt vt : TypeId} {m : Nat} {α β : Type} [DecidableEq α] {K : α → Value} {V : β → Value} {l : List (α × β)} {a : α} {v : β} (hu : P.underlying T = some (.map kt vt)) (hk : KeyOk P kt K) (hx : ev ρ x = .map (some m)) (hy : ev ρ y = K a) (hz : ev ρ z = V v)
    (hO : O[i]? = some (mapI K V m l)) (hfresh : a ∉ l.map Prod.fst) (h : K' ρ (O.set i (mapI K V m (l ++ [(a, v)])))) : LT P r base n ⟨none, .insert T x y z, t, p, af, g⟩ ρ O K' :=
  LT.of_skip fun w M hI => by
    obtain ⟨es, clk, hr, hes⟩ := run_put (v := v) hu hk (hI.holds (mapI K V m l) (List.mem_append_left _ (List.mem_of_getElem? hO))) hfresh
    exact ⟨setB w m (.map es clk), _, by simp [execOp, hx, hy, hz, hr], hI.setMap hO hes, h⟩
end
end Go.Lx

namespace Go.Lx
open Go.RowKit
section
variable {P : Program} {base : World} {ρ : Env} {O : List Item} {dst : Option Nat} {t : TypeId} {p : String} {af : Array Edge} {g : Option (Nat × Bool)}
theorem q_load_rowAgg {x : Operand} {T E : TypeId} {d : TypeDesc} {b o i c k : Nat} {cs vs : List Value} {z : Value} {s by_ : Nat} (hu : P.underlying T = some d) (ha : aggB d = true) (hi : Inf P T z s by_) (hx : ev ρ x = .pointer (some ⟨b, o + i, none⟩)) (hl : vs.length = s)
    (hO : rowI (some ⟨b, o, none⟩) c E k cs ∈ O) (hv : ∀ j (h : j < vs.length), cs[i + j]? = some vs[j]) : QT P base ⟨dst, .load T x, t, p, af, g⟩ ρ O (.agg vs.toArray) :=
  q_load_agg hu ha hi hx hl fun w hI j hj => by
    have := (hI.slOf hO).get (hv j hj)
    rwa [← Nat.add_assoc] at this
theorem q_load_slAgg {x : Operand} {T : TypeId} {d : TypeDesc} {b o i : Nat} {cs vs : List Value} {z : Value} {s by_ : Nat} (hu : P.underlying T = some d) (ha : aggB d = true) (hi : Inf P T z s by_) (hx : ev ρ x = .pointer (some ⟨b, o + i, none⟩)) (hl : vs.length = s)
    (hs : Sl base (some ⟨b, o, none⟩) cs) (hv : ∀ j (h : j < vs.length), cs[i + j]? = some vs[j]) : QT P base ⟨dst, .load T x, t, p, af, g⟩ ρ O (.agg vs.toArray) :=
  q_load_agg hu ha hi hx hl fun w hI j hj => by
    have := (hI.sl hs).get (hv j hj)
    rwa [← Nat.add_assoc] at this
end
section
variable {P : Program} {r : Option Nat} {base : World} {n : Nat} {ρ : Env} {O : List Item} {K : Env → List Item → Prop} {d : Nat} {t : TypeId} {p : String} {af : Array Edge} {g : Option (Nat × Bool)}
theorem Inv.weaken {w : World} {it it' : Item} {i : Nat} (hI : Inv base O w) (hO : O[i]? = some it) (hb : it'.blocks = it.blocks) (hp : it.P w → it'.P w) : Inv base (O.set i it') w := by
  obtain ⟨A, B, e, hset⟩ := split_at hO
  rw [hset it']
  subst e
  refine ⟨hI.below, fun x hx => ?_, fun x hx b hb' => ?_, ?_⟩
  · rcases List.mem_append.1 hx with hx | hx
    · exact hI.holds x (by simp [hx])
    · rcases List.mem_cons.1 hx with rfl | hx
      · exact hp (hI.holds it (by simp))
      · exact hI.holds x (by simp [hx])
  · rcases List.mem_append.1 hx with hx | hx
    · exact hI.fresh x (by simp [hx]) b hb'
    · rcases List.mem_cons.1 hx with rfl | hx
      · rw [hb] at hb'; exact hI.fresh it (by simp) b hb'
      · exact hI.fresh x (by simp [hx]) b hb'
  · have := hI.nodup
    simpa [List.flatMap_append, List.flatMap_cons, hb] using this
theorem l_tail (i : Nat) {x y : Operand} {T E : TypeId} {b : Option Addr} {m c k by_ : Nat} {z : Value} {kk : IntKind} {cs : List Value} (hu : P.underlying T = some (.slice E)) (hi : Inf P E z k by_) (hk : 0 < k) (hx : ev ρ x = .slice b m c) (hy : ev ρ y = .int kk 1)
    (hO : O[i]? = some (rowI b c E k cs)) (hl : cs.length = m * k) (hm : 0 < m)
    (h : ∀ b', K (upd ρ d (.slice b' (m - 1) (c - 1))) (O.set i (rowI b' (c - 1) E k (cs.drop k)))) (hn : Nat.blt d n = true := by rfl) : LT P r base n ⟨some d, .slice T x (some y) none none, t, p, af, g⟩ ρ O K :=
  LT.of_run hn fun w M hI => by
    have hrow := hI.row (at_app hO)
    cases b with
    | none =>
      obtain ⟨rfl, rfl⟩ := hrow
      have : m * k = 0 := by simpa using hl.symm
      have : 0 < m * k := Nat.mul_pos hm hk
      omega
    | some a =>
      obtain ⟨bk, o, sp⟩ := a
      obtain ⟨hsp, full, hb, h1, h2, h3⟩ := hrow
      simp only at hsp hb h1 h2 h3
      subst hsp
      have hmc : m ≤ c := by
        rw [hl] at h1
        exact Nat.le_of_mul_le_mul_right h1 hk
      have hdl : (cs.drop k).length ≤ (c - 1) * k := by
        rw [List.length_drop, hl, Nat.sub_mul, Nat.one_mul]
        have := Nat.mul_le_mul_right k hmc
        omega
      have hck : (c - 1) * k + k = c * k := by
        have : c - 1 + 1 = c := by omega
        rw [← this, Nat.add_mul, Nat.one_mul, Nat.add_sub_cancel]
      refine ⟨.slice (if c = 1 then some ⟨bk, o, none⟩ else some ⟨bk, o + k, none⟩) (m - 1) (c - 1), w, _, ?_, ?_, h _⟩
      · have e1 : (1 : Int) ≤ (m : Int) := by omega
        by_cases e : c = 1
        · simp [execOp, Instr.sliceAt, Instr.slice, hx, hy, run_underlying' hu, run_sizeOf' hi, Instr.sliceBounds, Instr.sliceBound, asIntOf, e1, e]
        · simp [execOp, Instr.sliceAt, Instr.slice, hx, hy, run_underlying' hu, run_sizeOf' hi, Instr.sliceBounds, Instr.sliceBound, asIntOf, e1, e, add_off]
      · rw [← set_app hO]
        refine hI.weaken (at_app hO) (by split <;> rfl) fun _ => ?_
        by_cases e : c = 1
        · simp only [e, if_true]
          have hm1 : m = 1 := by omega
          subst hm1
          have : cs.drop k = [] := by simp [hl]
          rw [this]
          refine ⟨rfl, full, hb, by simp, by simp; omega, by simp⟩
        · simp only [e, if_false]
          refine ⟨rfl, full, hb, hdl, by simp only; omega, fun q hq => ?_⟩
          have hq' : k + q < cs.length := by rw [List.length_drop] at hq; omega
          have := h3 (k + q) hq'
          simp only [List.getElem_drop]
          rw [show o + k + q = o + (k + q) by omega]
          exact this
theorem Src.str {s : List UInt8} {m : Nat} (hl : s.length = m) : Src P base O 1 m (str s) (cells8 s) :=
  ⟨by simp [hl], fun w => by
    have e : (ByteArray.mk s.toArray).size = m := by show s.toArray.size = _; simp [hl]
    simp [Lx.str, Builtin.lenOf, e], fun w _ => by
    subst hl
    have e : (ByteArray.mk s.toArray).extract 0 s.length = ByteArray.mk s.toArray := by
      have := ByteArray.extract_zero_size (b := ByteArray.mk s.toArray)
      simpa [ByteArray.size] using this
    simp [Lx.str, Builtin.firstCells, e, cells8]⟩
theorem l_appendS {T U E : TypeId} {b : Option Addr} {m c l by_ : Nat} {x y : Operand} {z : Value} {cs : List Value} {s : List UInt8} (j : Nat)
    (hu : P.underlying T = some (.slice E)) (hxu : P.underlying U = some .string) (hi : Inf P E z 1 by_) (hz : z.cells.size = 1)
    (hx : ev ρ x = .slice b m c) (hy : ev ρ y = str s) (hO : O[j]? = some (rowI b c E 1 cs)) (hl : cs.length = m) (hs : s.length = l)
    (hsz : (m + l) * by_ ≤ 70368744177664) (hby : by_ ≤ 1000000) (hsz' : 0 < by_)
    (h : ∀ b' c', K (upd ρ d (.slice b' (m + l) c')) (O.set j (rowI b' c' E 1 (cs ++ cells8 s)))) (hn : Nat.blt d n = true := by rfl) :
    LT P r base n ⟨some d, .call ⟨.builtin .append, #[x, y], #[T, U]⟩, t, p, af, g⟩ ρ O K :=
  LT.of_run hn fun w M hI => by
    obtain ⟨b', c', w', hr, hI'⟩ := run_append (ty := t) hu hxu (.inr rfl) hi hz (at_app hO) (by simpa using hl) (by decide) (Src.app (Src.str hs)) (cells8_one s) hsz hby hsz' hI
    rw [set_app hO] at hI'
    refine ⟨_, w', _, ?_, hI', h b' c'⟩
    simp [execOp, resolve, hx, hy, invoke, builtin, hr]
end
theorem QT.cast {P : Program} {base : World} {o : Oper} {ρ : Env} {O : List Item} {v v' : Value} (h : QT P base o ρ O v) (e : v = v') : QT P base o ρ O v' := e ▸ h
def elP (b : Option Addr) (i : Nat) : Value := .pointer (b.map fun a => ⟨a.block, a.off + i, none⟩)
theorem Sl.o {base : World} {O : List Item} {b : Option Addr} {cs : List Value} (h : Sl base b cs) : ∀ w, Inv base O w → Sl w b cs := fun _ hI => hI.sl h
theorem rowO {base : World} {O : List Item} {b : Option Addr} {c k : Nat} {E : TypeId} {cs : List Value} (h : rowI b c E k cs ∈ O) : ∀ w, Inv base O w → Sl w b cs := fun _ hI => hI.slOf h
section
variable {P : Program} {base : World} {ρ : Env} {O : List Item} {dst : Option Nat} {t : TypeId} {p : String} {af : Array Edge} {g : Option (Nat × Bool)}
theorem q_ixK {x y : Operand} {T E : TypeId} {b : Option Addr} {n c i : Nat} {kk : IntKind} {z : Value} {s by_ : Nat} {cs : List Value} (hu : P.underlying T = some (.slice E)) (hi : Inf P E z s by_) (hx : ev ρ x = .slice b n c) (hy : ev ρ y = .int kk (i : Int)) (hs : ∀ w, Inv base O w → Sl w b cs) (hlt : i < n) (hl : i * s < cs.length) :
    QT P base ⟨dst, .indexAddr T x y, t, p, af, g⟩ ρ O (elP b (i * s)) := fun w hI => by
  obtain ⟨bk, o, rfl⟩ := (hs w hI).addr hl
  exact q_indexAddr hu hi hx hy hlt w hI
theorem q_ix {x y : Operand} {T E : TypeId} {b : Option Addr} {n c i : Nat} {kk : IntKind} {z : Value} {by_ : Nat} {cs : List Value} (hu : P.underlying T = some (.slice E)) (hi : Inf P E z 1 by_) (hx : ev ρ x = .slice b n c) (hy : ev ρ y = .int kk (i : Int)) (hs : ∀ w, Inv base O w → Sl w b cs) (hlt : i < n := by first | assumption | omega | (simp; omega) | simp_all) (hl : i < cs.length := by first | omega | (simp; done) | (simp; omega) | (simp_all; done) | (simp_all; omega)) :
    QT P base ⟨dst, .indexAddr T x y, t, p, af, g⟩ ρ O (elP b i) := by
  have := q_ixK (P := P) (base := base) (O := O) (dst := dst) (t := t) (p := p) (af := af) (g := g) hu hi hx hy hs hlt (by simpa using hl)
  rwa [Nat.mul_one] at this
theorem q_ixz {x y : Operand} {T E : TypeId} {b : Option Addr} {n c : Nat} {i : Int} {kk : IntKind} {z : Value} {by_ : Nat} {cs : List Value} (hu : P.underlying T = some (.slice E)) (hi : Inf P E z 1 by_) (hx : ev ρ x = .slice b n c) (hy : ev ρ y = .int kk i) (hs : ∀ w, Inv base O w → Sl w b cs) (h0 : 0 ≤ i) (hlt : i.toNat < n) (hl : i.toNat < cs.length) :
    QT P base ⟨dst, .indexAddr T x y, t, p, af, g⟩ ρ O (elP b i.toNat) :=
  q_ix hu hi hx (by rw [hy, Int.toNat_of_nonneg h0]) hs hlt hl
theorem q_ld {x : Operand} {T : TypeId} {d : TypeDesc} {b : Option Addr} {i : Nat} {cs : List Value} {v : Value} (hu : P.underlying T = some d) (ha : aggB d = false) (hx : ev ρ x = elP b i)
    (hs : ∀ w, Inv base O w → Sl w b cs) (hv : cs[i]? = some v) : QT P base ⟨dst, .load T x, t, p, af, g⟩ ρ O v := fun w hI => by
  obtain ⟨hi, _⟩ := List.getElem?_eq_some_iff.1 hv
  obtain ⟨bk, o, rfl⟩ := (hs w hI).addr hi
  exact q_load_cell hu ha hx (fun w hI => (hs w hI).get hv) w hI
theorem q_ldK {x : Operand} {T : TypeId} {d : TypeDesc} {b : Option Addr} {i : Nat} {cs vs : List Value} {z : Value} {s by_ : Nat} (hu : P.underlying T = some d) (ha : aggB d = true) (hi : Inf P T z s by_) (hx : ev ρ x = elP b i) (hl : vs.length = s) (hpos : 0 < vs.length)
    (hs : ∀ w, Inv base O w → Sl w b cs) (hv : ∀ j (h : j < vs.length), cs[i + j]? = some vs[j]) : QT P base ⟨dst, .load T x, t, p, af, g⟩ ρ O (.agg vs.toArray) := fun w hI => by
  obtain ⟨h0, _⟩ := List.getElem?_eq_some_iff.1 (hv 0 hpos)
  obtain ⟨bk, o, rfl⟩ := (hs w hI).addr (i := i) (by omega)
  exact q_load_agg hu ha hi hx hl (fun w hI j hj => by have := (hs w hI).get (hv j hj); rwa [← Nat.add_assoc] at this) w hI
theorem q_fieldEl {x : Operand} {S : TypeId} {fs : Array Field} {i : Nat} {f : Field} {b : Option Addr} {o : Nat} {z : Value} {s by_ : Nat} {cs : List Value} (hu : P.underlying S = some (.struct fs)) (hf : fs[i]? = some f) (hi : Inf P f.type z s by_) (hs : (s == 0) = false)
    (hx : ev ρ x = elP b o) (hsl : ∀ w, Inv base O w → Sl w b cs) (ho : o < cs.length) : QT P base ⟨dst, .fieldAddr S x i, t, p, af, g⟩ ρ O (elP b (o + f.offset)) := fun w hI => by
  obtain ⟨bk, o', rfl⟩ := (hsl w hI).addr ho
  have := q_fieldAddr (P := P) (base := base) (O := O) (dst := dst) (t := t) (p := p) (af := af) (g := g) hu hf hi hs (b := bk) (o := o' + o) hx w hI
  rw [this]; simp [elP, Nat.add_assoc]
end
section
variable {P : Program} {r : Option Nat} {base : World} {n : Nat} {ρ : Env} {O : List Item} {K : Env → List Item → Prop} {d : Nat} {t : TypeId} {p : String} {af : Array Edge} {g : Option (Nat × Bool)}
theorem l_st (i : Nat) {T E : TypeId} {x y : Operand} {b : Option Addr} {j c k : Nat} {v : Value} {vs cs : List Value} {z : Value} {s by_ : Nat} (hi : Inf P T z s by_) (hx : ev ρ x = elP b j) (hy : ev ρ y = v) (hv : v.cells = vs.toArray) (hl : vs.length = s) (ho : (vs.all oneB) = true) (hs : 0 < vs.length)
    (hO : O[i]? = some (rowI b c E k cs)) (hr : j + vs.length ≤ cs.length)
    (h : K ρ (O.set i (rowI b c E k (putL cs j vs)))) : LT P r base n ⟨none, .store T x y, t, p, af, g⟩ ρ O K := fun a w M ds ha hI => by
  obtain ⟨bk, o, rfl⟩ := (hI.left.slOf (List.mem_of_getElem? hO)).addr (i := j) (by omega)
  exact l_store_row i hi hx hy hv hl ho hO hr h a w M ds ha hI
end
def pairV (q : Int × Int) : Value := .agg #[.int .i64 q.1, .int .i64 q.2]
theorem run_equal_int {P : Program} {T : TypeId} {k : IntKind} (h : P.underlying T = some (.int k)) (d : Nat) (a b : Int) (w : World) : (Op.equalIn (d + 1) T (.int .i64 a) (.int .i64 b)).run P w = .ok (a == b) w := by
  rw [Op.equalIn]
  simp [run_underlying' h]
structure Pair2 (P : Program) (kt : TypeId) (f1 f2 : Field) : Prop where
  under : P.underlying kt = some (.struct #[f1, f2])
  u1 : P.underlying f1.type = some (.int .i64)
  u2 : P.underlying f2.type = some (.int .i64)
  o1 : f1.offset = 0
  o2 : f2.offset = 1
  n1 : f1.name ≠ "_"
  n2 : f2.name ≠ "_"
  held : P.stoodInHeld kt = false
theorem Pair2.equal {P : Program} {kt : TypeId} {f1 f2 : Field} (h : Pair2 P kt f1 f2) (a b : Int × Int) (w : World) : (Op.equal kt (pairV a) (pairV b)).run P w = .ok (decide (a = b)) w := by
  show (Op.equalIn (9998 + 1 + 1) kt (pairV a) (pairV b)).run P w = _
  rw [Op.equalIn]
  have hp1 : ∀ (c : Int × Int), (part f1.type #[.int .i64 c.1, .int .i64 c.2] f1.offset).run P w = .ok (.int .i64 c.1) w := fun c => by
    simp [part, run_isAgg' h.u1, aggB, h.o1]
  have hp2 : ∀ (c : Int × Int), (part f2.type #[.int .i64 c.1, .int .i64 c.2] f2.offset).run P w = .ok (.int .i64 c.2) w := fun c => by
    simp [part, run_isAgg' h.u2, aggB, h.o2]
  simp [run_underlying' h.under, pairV, h.held, h.n1, h.n2, hp1, hp2, run_equal_int h.u1, run_equal_int h.u2]
  by_cases e1 : a.1 = b.1
  · by_cases e2 : a.2 = b.2
    · have : a = b := by cases a; cases b; simp_all
      simp [e1, e2, this]
    · have : ¬ a = b := fun e => e2 (by rw [e])
      simp [e1, e2, this]
  · have : ¬ a = b := fun e => e1 (by rw [e])
    simp [e1, this]
theorem KeyOk.pair {P : Program} {kt : TypeId} {f1 f2 : Field} (h : Pair2 P kt f1 f2) : KeyOk P kt pairV where
  check := fun e a w => by
    show (Instr.checkKey e (9998 + 1 + 1) kt _).run P w = _
    rw [Instr.checkKey]
    have hp1 : ∀ (c : Int × Int), (part f1.type #[.int .i64 c.1, .int .i64 c.2] f1.offset).run P w = .ok (.int .i64 c.1) w := fun c => by
      simp [part, run_isAgg' h.u1, aggB, h.o1]
    have hp2 : ∀ (c : Int × Int), (part f2.type #[.int .i64 c.1, .int .i64 c.2] f2.offset).run P w = .ok (.int .i64 c.2) w := fun c => by
      simp [part, run_isAgg' h.u2, aggB, h.o2]
    have hk : ∀ (tt : TypeId) (v : Int), P.underlying tt = some (.int .i64) → (Instr.checkKey e (9998 + 1) tt (.int .i64 v)).run P w = .ok () w := fun tt v hu => by
      rw [Instr.checkKey]; simp [run_underlying' hu]
    simp [run_underlying' h.under, pairV, h.n1, h.n2, hp1, hp2, hk _ _ h.u1, hk _ _ h.u2]
  find := fun es ks a w hks => by
    have ask : ∀ (es : List MapEntry) (ks : List (Int × Int)) (i : Nat), es.map (·.key) = ks.map pairV → (Instr.findAsking kt (pairV a) es i).run P w = .ok (findL a ks es i) w := by
      intro es
      induction es with
      | nil => intro ks i h; cases ks <;> simp_all [Instr.findAsking, findL]
      | cons e es ih =>
        intro ks i hh
        cases ks with
        | nil => simp at hh
        | cons b ks =>
          simp only [List.map_cons, List.cons.injEq] at hh
          simp only [Instr.findAsking, hh.1, Sem.run_bind, h.equal, Result.andThen_ok, findL]
          by_cases e : a = b
          · simp [e]
          · simp [e, ih ks (i + 1) hh.2]
    have key : ∀ (es : List MapEntry) (ks : List (Int × Int)), es.map (·.key) = ks.map pairV → Instr.findNow (.struct #[f1, f2]) (pairV a) es 0 = some (findL a ks es 0) ∨ Instr.findNow (.struct #[f1, f2]) (pairV a) es 0 = none := by
      intro es ks hh
      cases es with
      | nil => left; cases ks <;> simp_all [Instr.findNow, findL]
      | cons e es => right; simp [Instr.findNow, Instr.sameNow]
    rcases key es ks hks with hk | hk
    · simp [Instr.findKey, run_underlying' h.under, hk]
    · simp [Instr.findKey, run_underlying' h.under, hk, ask es ks 0 hks]
end Go.Lx

namespace Go.Lx
open Go.RowKit
section
variable {P : Program} {r : Option Nat} {base : World} {n : Nat} {ρ : Env} {O : List Item} {Q : Post}
theorem T.cut1 {x : Code} (K : Env → List Item → Prop) (h : T P r base n x (thn K Q) ρ O) (hk : ∀ ρ O, K ρ O → Q .normal ρ O) : T P r base n x Q ρ O :=
  h.mono fun e ρ O h => by cases e <;> first | exact hk ρ O h | exact h
variable {t : TypeId} {p : String} {af : Array Edge} {g : Option (Nat × Bool)} {dst : Option Nat}
theorem q_eqlNil {x y : Operand} {T E U : TypeId} {b : Option Addr} {n c : Nat} (hu : P.underlying T = some (.slice E)) (hx : ev ρ x = .slice b n c) (hy : ev ρ y = .slice none 0 0) : QT P base ⟨dst, .binOp .eql T x y U, t, p, af, g⟩ ρ O (.bool b.isNone) := fun w _ => by
  have h : (Op.equal T (.slice b n c) (.slice none 0 0)).run P w = .ok b.isNone w := by
    show (Op.equalIn (9999 + 1) T _ _).run P w = _
    rw [Op.equalIn]
    cases b <;> simp [run_underlying' hu]
  simp [execOp, hx, hy, eqGuard, binOp, h]
theorem wrap8 {x : Nat} (h : x < 256) : IntKind.u8.wrap (x : Int) = (x : Int) := by
  simp only [IntKind.wrap, IntKind.signed, IntKind.bits]
  simp
  omega
end
end Go.Lx

namespace Go.Lx
open Go.RowKit
def iterP {α β : Type} (K : α → Value) (V : β → Value) (m r : Nat) (l left : List (α × β)) (cur : Option (α × β)) (w : World) : Prop :=
  ∃ (es : Array MapEntry) (clk : Nat) (seen : Array Nat), w.heap[m]? = some (.map es clk) ∧ w.heap[r]? = some (.mapIter (some m) clk seen clk) ∧ (es.toList.map (fun e => (e.key, e.val)) = l.map fun q => (K q.1, V q.2)) ∧ (es.toList.map (·.born)).Nodup ∧ (∀ e ∈ es.toList, e.born < clk) ∧
    ((leftOf es seen).toList.map (fun e => (e.key, e.val)) = left.map fun q => (K q.1, V q.2)) ∧ ∀ q, cur = some q → ∃ e ∈ es.toList, (∃ s' : Array Nat, seen = s'.push e.born) ∧ e.key = K q.1 ∧ e.val = V q.2
def iterI {α β : Type} (K : α → Value) (V : β → Value) (m r : Nat) (l left : List (α × β)) (cur : Option (α × β)) : Item where
  blocks := [m, r]
  P := iterP K V m r l left cur
  loc := fun w w' h hp => by
    obtain ⟨es, clk, seen, h1, h2, h3⟩ := hp
    exact ⟨es, clk, seen, by rw [h m (by simp)]; exact h1, by rw [h r (by simp)]; exact h2, h3⟩
section
variable {P : Program} {r : Option Nat} {base : World} {n : Nat} {ρ : Env} {O : List Item} {K' : Env → List Item → Prop} {d : Nat} {t : TypeId} {p : String} {af : Array Edge} {g : Option (Nat × Bool)}
theorem leftOf_nil (es : Array MapEntry) : leftOf es #[] = es := by
  unfold leftOf
  rw [Array.filter_eq_self]
  simp
theorem l_rangeMap (i : Nat) {x : Operand} {T kt vt : TypeId} {m : Nat} {α β : Type} {K : α → Value} {V : β → Value} {l : List (α × β)} (hu : P.underlying T = some (.map kt vt)) (hx : ev ρ x = .map (some m)) (hO : O[i]? = some (mapI K V m l))
    (h : ∀ q, K' (upd ρ d (.pointer (some ⟨q, 0, none⟩))) (O.set i (iterI K V m q l l none))) (hn : Nat.blt d n = true := by rfl) : LT P r base n ⟨some d, .range T x, t, p, af, g⟩ ρ O K' :=
  LT.of_run hn fun w M hI => by
    have hm := hI.holds (mapI K V m l) (List.mem_append_left _ (List.mem_of_getElem? hO))
    obtain ⟨es, clk, h1, h2, h3, h4⟩ := hm
    have hfr := hI.fresh (mapI K V m l) (List.mem_append_left _ (List.mem_of_getElem? hO)) m (by simp [mapI])
    refine ⟨.pointer (some ⟨w.heap.size, 0, none⟩), w.alloc (.mapIter (some m) clk #[] clk), _, ?_, ?_, h w.heap.size⟩
    · simp [execOp, hx, Instr.range, run_underlying' hu, getObj, Sem.run, h1]
    · rw [← set_app hO]
      have hal : ∀ b, b < w.heap.size → (w.alloc (.mapIter (some m) clk #[] clk)).heap[b]? = w.heap[b]? := fun b hb => Below.heap_alloc w _ b hb
      refine hI.stepAt (at_app hO) rfl rfl rfl (by simp) (fun b hb _ => hal b hb) ?_ ?_ ?_
      · refine ⟨es, clk, #[], by rw [hal m hfr.2]; exact h1, ?_, h2, h3, h4, ?_, by simp⟩
        · show (w.heap.push _)[w.heap.size]? = _; simp
        · rw [leftOf_nil]; exact h2
      · intro b hb
        simp [iterI] at hb
        rcases hb with rfl | rfl
        · exact .inl (by simp [mapI])
        · exact .inr ⟨Nat.le_refl _, by simp⟩
      · simp [iterI]; omega
theorem leftOf_push {es : Array MapEntry} {seen : Array Nat} {b : Nat} : (leftOf es (seen.push b)).toList = (leftOf es seen).toList.filter (fun e => !(e.born == b)) := by
  unfold leftOf
  simp only [Array.toList_filter, List.filter_filter]
  congr 1
  funext e
  simp only [Array.contains_eq_mem, Array.mem_push, Bool.decide_or, Bool.not_or, Bool.and_comm]
  by_cases h : e.born = b <;> simp [h]
theorem filter_split {A B : List MapEntry} {e : MapEntry} (h : ((A ++ e :: B).map (·.born)).Nodup) : (A ++ e :: B).filter (fun x => !(x.born == e.born)) = A ++ B := by
  simp only [List.map_append, List.map_cons, List.nodup_append, List.nodup_cons, List.mem_map, List.mem_cons] at h
  obtain ⟨_, ⟨h2, _⟩, h3⟩ := h
  rw [List.filter_append, List.filter_cons]
  simp only [beq_self_eq_true, Bool.not_true, Bool.false_eq_true, if_false]
  rw [List.filter_eq_self.2, List.filter_eq_self.2]
  · intro x hx; simp; intro e'; exact h2 ⟨x, hx, e'⟩
  · intro x hx; simp; exact h3 x.born ⟨x, hx, rfl⟩ e.born (.inl rfl)
theorem l_nextMap (i : Nat) {x : Operand} {m q : Nat} {α β : Type} {K : α → Value} {V : β → Value} {l left : List (α × β)} {cur : Option (α × β)} (hx : ev ρ x = .pointer (some ⟨q, 0, none⟩)) (hO : O[i]? = some (iterI K V m q l left cur))
    (h0 : left = [] → K' (upd ρ d (.tuple #[.bool false])) O)
    (h : ∀ A e B, left = A ++ e :: B → K' (upd ρ d (.tuple #[.bool true, K e.1, V e.2])) (O.set i (iterI K V m q l (A ++ B) (some e)))) (hn : Nat.blt d n = true := by rfl) : LT P r base n ⟨some d, .next x false, t, p, af, g⟩ ρ O K' :=
  LT.of_run hn fun w M hI => by
    have hm := hI.holds (iterI K V m q l left cur) (List.mem_append_left _ (List.mem_of_getElem? hO))
    obtain ⟨es, clk, seen, h1, h2, h3, h4, h5, h6, h7⟩ := hm
    have hnd := hI.nodup
    rcases run_next_at (P := P) w t q m clk clk seen es clk h2 h1 h5 (Nat.le_refl _) with ⟨hs, hr⟩ | ⟨e, he, w1, hw1, hr⟩
    · have hl : left = [] := by
        have : (leftOf es seen).toList = [] := List.eq_nil_of_length_eq_zero (by rw [Array.length_toList]; exact hs)
        rw [this] at h6
        cases left with
        | nil => rfl
        | cons a b => simp at h6
      exact ⟨_, w, O, by simp [execOp, hx, hr], hI, h0 hl⟩
    · obtain ⟨A, B, hAB⟩ := List.append_of_mem he
      rw [hAB] at h6
      obtain ⟨A', C', e1, e2, e3⟩ : ∃ A' C', left = A' ++ C' ∧ A.map (fun e => (e.key, e.val)) = A'.map (fun q => (K q.1, V q.2)) ∧ (e :: B).map (fun e => (e.key, e.val)) = C'.map (fun q => (K q.1, V q.2)) := by
        rw [List.map_append] at h6
        obtain ⟨a, c, h8, h9, h10⟩ := List.append_eq_map_iff.1 h6
        exact ⟨a, c, h8, h9.symm, h10.symm⟩
      obtain ⟨f, B', rfl⟩ : ∃ f B', C' = f :: B' := by
        cases C' with
        | nil => simp at e3
        | cons f B' => exact ⟨f, B', rfl⟩
      simp only [List.map_cons, List.cons.injEq, Prod.mk.injEq] at e3
      have hees : e ∈ es.toList := by
        have : e ∈ (leftOf es seen).toList := he
        unfold leftOf at this
        simp at this ⊢; exact this.1
      have hbn : ((A ++ e :: B).map (·.born)).Nodup := by
        rw [← hAB]
        unfold leftOf
        rw [Array.toList_filter]
        exact (List.filter_sublist.map _).nodup h4
      have hI1 : Inv base (O ++ M) w1 := hw1.elim (fun e => e ▸ hI) (fun e => e ▸ hI.drew)
      have hh1 : w1.heap = w.heap := by rcases hw1 with rfl | rfl <;> rfl
      have hq1 : w1.heap[q]? = some (.mapIter (some m) clk seen clk) := by rw [hh1]; exact h2
      have hqlt := (Array.getElem?_eq_some_iff.1 hq1).1
      have hmq : m ≠ q := fun e' => by subst e'; rw [h1] at h2; simp at h2
      refine ⟨_, setB w1 q (.mapIter (some m) clk (seen.push e.born) clk), _, by simp [execOp, hx, hr]; exact ⟨e3.1, rfl⟩, ?_, h A' f B' e1⟩
      rw [← set_app hO]
      refine hI1.stepAt (at_app hO) rfl rfl rfl (by rw [setB_size]; exact Nat.le_refl _) (fun k _ hk => setB_other (fun e' => hk (by simp [iterI, e']))) ?_ (fun k hk => .inl hk) (by simp [iterI]; exact hmq)
      refine ⟨es, clk, seen.push e.born, by rw [setB_other (fun e' => hmq e'), hh1]; exact h1, setB_same hqlt, h3, h4, h5, ?_, fun z hz => ?_⟩
      · rw [leftOf_push, hAB, filter_split hbn, List.map_append, List.map_append, e2, e3.2]
      · cases hz
        exact ⟨e, hees, ⟨seen, rfl⟩, e3.1.1, e3.1.2⟩
theorem q_entryMap {x : Operand} {m q : Nat} {α β : Type} {K : α → Value} {V : β → Value} {l left : List (α × β)} {c : α × β} {dst : Option Nat} (hx : ev ρ x = .pointer (some ⟨q, 0, none⟩)) (hO : iterI K V m q l left (some c) ∈ O) :
    QT P base ⟨dst, .entry x, t, p, af, g⟩ ρ O (.tuple #[K c.1, V c.2]) := fun w hI => by
  obtain ⟨es, clk, seen, h1, h2, h3, h4, h5, h6, h7⟩ := hI.holds _ hO
  obtain ⟨e, he, ⟨s', rfl⟩, hk, hv⟩ := h7 c rfl
  have := run_entry_at (P := P) w q m clk s' es clk e h2 h1 he h4
  simp [execOp, hx, this, hk, hv]
end
end Go.Lx

namespace Go.Lx
open Go.RowKit
section
variable {P : Program} {base : World} {ρ : Env} {O : List Item} {dst : Option Nat} {t : TypeId} {p : String} {af : Array Edge} {g : Option (Nat × Bool)}
theorem ofInt_nat {n a : Nat} (h : a < 2 ^ n) : (BitVec.ofInt n (a : Int)).toNat = a := by
  rw [BitVec.ofInt_natCast, BitVec.toNat_ofNat, Nat.mod_eq_of_lt h]
theorem wrapU64 {x : Nat} (h : x < 2 ^ 64) : IntKind.u64.wrap (x : Int) = (x : Int) := by
  simp only [IntKind.wrap, IntKind.signed, IntKind.bits]
  simp
  omega
inductive UK : IntKind → Prop
  | u8 : UK .u8
  | u64 : UK .u64
theorem UK.wrap {k : IntKind} (hk : UK k) {x : Nat} (h : x < 2 ^ k.bits) : k.wrap (x : Int) = (x : Int) := by
  cases hk
  · exact wrap8 (by simpa [IntKind.bits] using h)
  · exact wrapU64 (by simpa [IntKind.bits] using h)
theorem q_or {x y : Operand} {T U : TypeId} {k : IntKind} {a b : Nat} (hk : UK k) (hx : ev ρ x = .int k (a : Int)) (hy : ev ρ y = .int k (b : Int)) (ha : a < 2 ^ k.bits) (hb : b < 2 ^ k.bits) : QT P base ⟨dst, .binOp .or T x y U, t, p, af, g⟩ ρ O (.int k ((a ||| b : Nat) : Int)) := fun w _ => by
  have := hk.wrap (Nat.or_lt_two_pow ha hb)
  simp [execOp, hx, hy, eqGuard, binOp, Op.intBits, Nat.mod_eq_of_lt ha, Nat.mod_eq_of_lt hb, this]
theorem q_and {x y : Operand} {T U : TypeId} {k : IntKind} {a b : Nat} (hk : UK k) (hx : ev ρ x = .int k (a : Int)) (hy : ev ρ y = .int k (b : Int)) (ha : a < 2 ^ k.bits) (hb : b < 2 ^ k.bits) : QT P base ⟨dst, .binOp .and T x y U, t, p, af, g⟩ ρ O (.int k ((a &&& b : Nat) : Int)) := fun w _ => by
  have := hk.wrap (Nat.lt_of_le_of_lt (Nat.and_le_left (n := a) (m := b)) ha)
  simp [execOp, hx, hy, eqGuard, binOp, Op.intBits, Nat.mod_eq_of_lt ha, Nat.mod_eq_of_lt hb, this]
theorem q_shr {x y : Operand} {T U : TypeId} {k k' : IntKind} {a b : Nat} (hk : UK k) (hx : ev ρ x = .int k (a : Int)) (hy : ev ρ y = .int k' (b : Int)) (ha : a < 2 ^ k.bits) (hb : b ≤ k.bits) : QT P base ⟨dst, .binOp .shr T x y U, t, p, af, g⟩ ρ O (.int k ((a >>> b : Nat) : Int)) := fun w _ => by
  have h0 : ¬ (b : Int) < 0 := by omega
  have h1 : min (b : Int).toNat k.bits = b := by rw [Int.toNat_natCast]; exact Nat.min_eq_left hb
  have h2 : (a : Int).fdiv (2 ^ b) = ((a >>> b : Nat) : Int) := by
    rw [Nat.shiftRight_eq_div_pow, Int.fdiv_eq_ediv_of_nonneg _ (by exact Int.le_of_lt (Int.pow_pos (by decide)))]
    rw [Int.natCast_ediv, Int.natCast_pow]; rfl
  simp only [execOp, hx, hy, eqGuard, binOp, Op.shift, h0, if_false, h1, h2]
  simp
theorem q_shlU {x y : Operand} {T U : TypeId} {k k' : IntKind} {a b : Nat} (hk : UK k) (hx : ev ρ x = .int k (a : Int)) (hy : ev ρ y = .int k' (b : Int)) (hb : b ≤ k.bits) (h : a * 2 ^ b < 2 ^ k.bits) : QT P base ⟨dst, .binOp .shl T x y U, t, p, af, g⟩ ρ O (.int k ((a * 2 ^ b : Nat) : Int)) := fun w _ => by
  have h0 : ¬ (b : Int) < 0 := by omega
  have h1 : min (b : Int).toNat k.bits = b := by rw [Int.toNat_natCast]; exact Nat.min_eq_left hb
  have h2 : k.wrap ((a : Int) * 2 ^ b) = ((a * 2 ^ b : Nat) : Int) := by
    have := hk.wrap h
    rw [← this]; congr 1
  simp only [execOp, hx, hy, eqGuard, binOp, Op.shift, h0, if_false, h1, h2]
  simp
theorem q_subU {x y : Operand} {T U : TypeId} {k : IntKind} {a b : Nat} (hk : UK k) (hx : ev ρ x = .int k (a : Int)) (hy : ev ρ y = .int k (b : Int)) (ha : a < 2 ^ k.bits) (hb : b ≤ a) : QT P base ⟨dst, .binOp .sub T x y U, t, p, af, g⟩ ρ O (.int k ((a - b : Nat) : Int)) := by
  have h := q_sub (P := P) (base := base) (O := O) (dst := dst) (t := t) (p := p) (af := af) (g := g) (T := T) (U := U) hx hy
  rw [← Int.natCast_sub hb, hk.wrap (by omega)] at h
  exact h
theorem q_addU {x y : Operand} {T U : TypeId} {k : IntKind} {a b : Nat} (hk : UK k) (hx : ev ρ x = .int k (a : Int)) (hy : ev ρ y = .int k (b : Int)) (ha : a + b < 2 ^ k.bits) : QT P base ⟨dst, .binOp .add T x y U, t, p, af, g⟩ ρ O (.int k ((a + b : Nat) : Int)) := by
  have h := q_add (P := P) (base := base) (O := O) (dst := dst) (t := t) (p := p) (af := af) (g := g) (T := T) (U := U) hx hy
  rw [← Int.natCast_add, hk.wrap ha] at h
  exact h
theorem q_remN {x y : Operand} {T U : TypeId} {k : IntKind} {a b : Nat} (hx : ev ρ x = .int k (a : Int)) (hy : ev ρ y = .int k (b : Int)) (h0 : 0 < b) : QT P base ⟨dst, .binOp .rem T x y U, t, p, af, g⟩ ρ O (.int k ((a % b : Nat) : Int)) := by
  have h := q_rem (P := P) (base := base) (O := O) (dst := dst) (t := t) (p := p) (af := af) (g := g) (T := T) (U := U) hx hy (by omega)
  rw [Int.tmod_eq_emod_of_nonneg (by omega), ← Int.natCast_emod] at h
  exact h
theorem q_quoN {x y : Operand} {T U : TypeId} {a b : Nat} (hx : ev ρ x = .int .i64 (a : Int)) (hy : ev ρ y = .int .i64 (b : Int)) (h0 : 0 < b) (ha : a < 9223372036854775808) : QT P base ⟨dst, .binOp .quo T x y U, t, p, af, g⟩ ρ O (.int .i64 ((a / b : Nat) : Int)) := fun w _ => by
  have h1 : (b : Int) ≠ 0 := by omega
  have h2 : (a : Int).tdiv (b : Int) = ((a / b : Nat) : Int) := by rw [Int.tdiv_eq_ediv_of_nonneg (by omega), Int.natCast_ediv]
  have h3 : IntKind.i64.wrap ((a / b : Nat) : Int) = ((a / b : Nat) : Int) := wrap64_id (by have h4 := Nat.div_le_self a b; generalize a / b = q at h4 ⊢; omega)
  rw [Int.natCast_ediv] at h2 h3 ⊢
  have h5 : b ≠ 0 := by omega
  simp [execOp, hx, hy, eqGuard, binOp, Op.intDiv, h5, h2, h3]
theorem q_addN {x y : Operand} {T U : TypeId} {a b : Nat} (hx : ev ρ x = .int .i64 (a : Int)) (hy : ev ρ y = .int .i64 (b : Int)) (h : a + b ≤ 9223372036854775807) : QT P base ⟨dst, .binOp .add T x y U, t, p, af, g⟩ ρ O (.int .i64 ((a + b : Nat) : Int)) := by
  have := q_add64 (P := P) (base := base) (O := O) (dst := dst) (t := t) (p := p) (af := af) (g := g) (T := T) (U := U) hx hy (by omega)
  rwa [← Int.natCast_add] at this
theorem q_subN {x y : Operand} {T U : TypeId} {a b : Nat} (hx : ev ρ x = .int .i64 (a : Int)) (hy : ev ρ y = .int .i64 (b : Int)) (h : b ≤ a) (ha : a ≤ 9223372036854775807) : QT P base ⟨dst, .binOp .sub T x y U, t, p, af, g⟩ ρ O (.int .i64 ((a - b : Nat) : Int)) := by
  have := q_sub64 (P := P) (base := base) (O := O) (dst := dst) (t := t) (p := p) (af := af) (g := g) (T := T) (U := U) hx hy (by omega)
  rwa [← Int.natCast_sub h] at this
theorem q_mulN {x y : Operand} {T U : TypeId} {a b : Nat} (hx : ev ρ x = .int .i64 (a : Int)) (hy : ev ρ y = .int .i64 (b : Int)) (h : a * b ≤ 9223372036854775807) : QT P base ⟨dst, .binOp .mul T x y U, t, p, af, g⟩ ρ O (.int .i64 ((a * b : Nat) : Int)) := by
  have := q_mul64 (P := P) (base := base) (O := O) (dst := dst) (t := t) (p := p) (af := af) (g := g) (T := T) (U := U) hx hy (by rw [← Int.natCast_mul]; omega)
  rwa [← Int.natCast_mul] at this
theorem q_maxN {x y : Operand} {ats : Array TypeId} {k k' : IntKind} {a b : Nat} (hx : ev ρ x = .int k (a : Int)) (hy : ev ρ y = .int k' (b : Int)) : QT P base ⟨dst, .call ⟨.builtin .max, #[x, y], ats⟩, t, p, af, g⟩ ρ O (.int k ((max a b : Nat) : Int)) := by
  have h := q_max (P := P) (base := base) (O := O) (dst := dst) (t := t) (p := p) (af := af) (g := g) (ats := ats) hx hy
  have e : (if (b : Int) > (a : Int) then (b : Int) else (a : Int)) = ((max a b : Nat) : Int) := by split <;> omega
  rwa [e] at h
theorem q_minN {x y : Operand} {ats : Array TypeId} {k k' : IntKind} {a b : Nat} (hx : ev ρ x = .int k (a : Int)) (hy : ev ρ y = .int k' (b : Int)) : QT P base ⟨dst, .call ⟨.builtin .min, #[x, y], ats⟩, t, p, af, g⟩ ρ O (.int k ((min a b : Nat) : Int)) := by
  have h := q_min (P := P) (base := base) (O := O) (dst := dst) (t := t) (p := p) (af := af) (g := g) (ats := ats) hx hy
  have e : (if (b : Int) < (a : Int) then (b : Int) else (a : Int)) = ((min a b : Nat) : Int) := by split <;> omega
  rwa [e] at h
def subB (b : Option Addr) (c lo k : Nat) : Option Addr := if c = lo then b else b.map (·.add (lo * k))
theorem subB_zero (b : Option Addr) (c k : Nat) : subB b c 0 k = b := by
  unfold subB
  split
  · rfl
  · rw [Nat.zero_mul]; cases b with
    | none => rfl
    | some a => simp [Addr.add]
theorem Sl.sub {w : World} {b : Option Addr} {cs : List Value} (h : Sl w b cs) (c lo k m : Nat) (hc : c = lo → (cs.drop (lo * k)).take m = []) : Sl w (subB b c lo k) ((cs.drop (lo * k)).take m) := fun i hi => by
  have hlt : lo * k + i < cs.length := by rw [List.length_take, List.length_drop] at hi; omega
  obtain ⟨⟨bk, o, sp⟩, h1, h2, h3⟩ := h _ hlt
  simp only at h2; subst h2
  have hne : c ≠ lo := fun e => by rw [hc e] at hi; simp at hi
  refine ⟨⟨bk, o + lo * k, none⟩, ?_, rfl, ?_⟩
  · unfold subB; rw [if_neg hne, h1]; simp [add_off]
  · simp only [List.getElem_take, List.getElem_drop]
    rw [show o + lo * k + i = o + (lo * k + i) by omega]; exact h3
theorem q_slice {x : Operand} {T E : TypeId} {b : Option Addr} {n c k by_ lo hi : Nat} {z : Value} {yl yh : Option Operand} {kl kh : IntKind} (hu : P.underlying T = some (.slice E)) (hi' : Inf P E z k by_) (hx : ev ρ x = .slice b n c)
    (hl : ∀ y, yl = some y → ev ρ y = .int kl (lo : Int)) (hl0 : yl = none → lo = 0) (hh : ∀ y, yh = some y → ev ρ y = .int kh (hi : Int)) (hh0 : yh = none → hi = n) (h1 : lo ≤ hi) (h2 : hi ≤ c) :
    QT P base ⟨dst, .slice T x yl yh none, t, p, af, g⟩ ρ O (.slice (subB b c lo k) (hi - lo) (c - lo)) := fun w _ => by
  have e1 : (lo : Int) ≤ (hi : Int) := by omega
  have e2 : (hi : Int) ≤ (c : Int) := by omega
  have e0 : (0 : Int) ≤ (lo : Int) := by omega
  have e3 : (0 : Int) ≤ (hi : Int) := by omega
  unfold subB
  have ed : c - lo = 0 ↔ c = lo := by omega
  cases yl with
  | none =>
    obtain rfl := hl0 rfl
    cases yh with
    | none =>
      obtain rfl := hh0 rfl
      by_cases hc0 : c = 0
      · simp [execOp, Instr.sliceAt, Instr.slice, hx, run_underlying' hu, run_sizeOf' hi', Instr.sliceBounds, hc0]
      · simp [execOp, Instr.sliceAt, Instr.slice, hx, run_underlying' hu, run_sizeOf' hi', Instr.sliceBounds, hc0]
    | some y =>
      have := hh y rfl
      by_cases hc0 : c = 0
      · simp [execOp, Instr.sliceAt, Instr.slice, hx, this, run_underlying' hu, run_sizeOf' hi', Instr.sliceBounds, Instr.sliceBound, asIntOf, e2, e3, hc0, h2]
        omega
      · simp [execOp, Instr.sliceAt, Instr.slice, hx, this, run_underlying' hu, run_sizeOf' hi', Instr.sliceBounds, Instr.sliceBound, asIntOf, e2, e3, hc0, h2]
  | some y' =>
    have hl' := hl y' rfl
    cases yh with
    | none =>
      obtain rfl := hh0 rfl
      by_cases hc0 : c = lo
      · simp [execOp, Instr.sliceAt, Instr.slice, hx, hl', run_underlying' hu, run_sizeOf' hi', Instr.sliceBounds, Instr.sliceBound, asIntOf, e1, e0, hc0, h1]
      · simp [execOp, Instr.sliceAt, Instr.slice, hx, hl', run_underlying' hu, run_sizeOf' hi', Instr.sliceBounds, Instr.sliceBound, asIntOf, e1, e0, hc0, h1]
    | some y =>
      have := hh y rfl
      by_cases hc0 : c = lo
      · simp [execOp, Instr.sliceAt, Instr.slice, hx, hl', this, run_underlying' hu, run_sizeOf' hi', Instr.sliceBounds, Instr.sliceBound, asIntOf, e1, e0, e2, e3, hc0, h1, h2]
        intro; omega
      · simp [execOp, Instr.sliceAt, Instr.slice, hx, hl', this, run_underlying' hu, run_sizeOf' hi', Instr.sliceBounds, Instr.sliceBound, asIntOf, e1, e0, e2, e3, hc0, h1, h2]
theorem q_sliceTo {x y : Operand} {T E : TypeId} {b : Option Addr} {n c k by_ hi : Nat} {z : Value} {kh : IntKind} (hu : P.underlying T = some (.slice E)) (hi' : Inf P E z k by_) (hx : ev ρ x = .slice b n c) (hh : ev ρ y = .int kh (hi : Int)) (h2 : hi ≤ c) :
    QT P base ⟨dst, .slice T x none (some y) none, t, p, af, g⟩ ρ O (.slice b hi c) := by
  have := q_slice (P := P) (base := base) (O := O) (dst := dst) (t := t) (p := p) (af := af) (g := g) (lo := 0) (kl := .i64) hu hi' hx (yl := none) (yh := some y) (fun _ h => by cases h) (fun _ => rfl) (fun _ h => by cases h; exact hh) (fun h => by cases h) (Nat.zero_le _) h2
  rwa [subB_zero, Nat.sub_zero, Nat.sub_zero] at this
theorem q_sliceFrom {x y : Operand} {T E : TypeId} {b : Option Addr} {n c k by_ lo : Nat} {z : Value} {kl : IntKind} (hu : P.underlying T = some (.slice E)) (hi' : Inf P E z k by_) (hx : ev ρ x = .slice b n c) (hh : ev ρ y = .int kl (lo : Int)) (h1 : lo ≤ n) (h2 : n ≤ c) :
    QT P base ⟨dst, .slice T x (some y) none none, t, p, af, g⟩ ρ O (.slice (subB b c lo k) (n - lo) (c - lo)) :=
  q_slice (kh := .i64) hu hi' hx (fun _ h => by cases h; exact hh) (fun h => by cases h) (fun _ h => by cases h) (fun _ => rfl) h1 h2
end
section
variable {P : Program} {r : Option Nat} {base : World} {n : Nat} {ρ : Env} {O : List Item} {K : Env → List Item → Prop} {d : Nat} {t : TypeId} {p : String} {af : Array Edge} {g : Option (Nat × Bool)}
theorem rowP.head {b : Option Addr} {c k : Nat} {T : TypeId} {cs : List Value} {w : World} (h : rowP b c T k cs w) (m : Nat) : rowP b c T k (cs.take m) w := by
  cases b with
  | none => obtain ⟨rfl, rfl⟩ := h; exact ⟨by simp, rfl⟩
  | some a =>
    obtain ⟨h1, full, h2, h3, h4, h5⟩ := h
    refine ⟨h1, full, h2, by rw [List.length_take]; omega, h4, fun i hi => ?_⟩
    have hi' : i < cs.length := by rw [List.length_take] at hi; omega
    rw [List.getElem_take]; exact h5 i hi'
theorem Inv.head {w : World} {i : Nat} {b : Option Addr} {c k : Nat} {T : TypeId} {cs : List Value} (hI : Inv base O w) (hO : O[i]? = some (rowI b c T k cs)) (m : Nat) : Inv base (O.set i (rowI b c T k (cs.take m))) w :=
  hI.weaken hO (by simp [rowI]) (fun h => h.head m)
theorem l_head (i : Nat) {x y : Operand} {T E : TypeId} {b : Option Addr} {n' c k by_ m : Nat} {z : Value} {kk : IntKind} {cs : List Value} (hu : P.underlying T = some (.slice E)) (hi : Inf P E z k by_) (hx : ev ρ x = .slice b n' c) (hy : ev ρ y = .int kk (m : Int))
    (hO : O[i]? = some (rowI b c E k cs)) (hm : m ≤ c)
    (h : K (upd ρ d (.slice b m c)) (O.set i (rowI b c E k (cs.take (m * k))))) (hn : Nat.blt d n = true := by rfl) : LT P r base n ⟨some d, .slice T x none (some y) none, t, p, af, g⟩ ρ O K :=
  LT.of_run hn fun w M hI => ⟨_, w, _, q_sliceTo hu hi hx hy hm w hI.left, by rw [← set_app hO]; exact hI.head (at_app hO) _, h⟩
end
theorem T.loopS {P : Program} {r : Option Nat} {base : World} {n : Nat} {Q : Post} {ρ : Env} {O : List Item} {c : Code} {α : Type} (I : α → Env → List Item → Prop) (μ : α → Nat) (s : α) (h0 : I s ρ O)
    (h : ∀ s ρ O, I s ρ O → T P r base n c (thn (fun ρ' O' => ∃ s', μ s' < μ s ∧ ∃ O2, Sub O2 O' ∧ I s' ρ' O2) Q) ρ O) : T P r base n (.loop c) Q ρ O :=
  T.loop (fun s ρ O => ∃ O2, Sub O2 O ∧ I s ρ O2) μ s ⟨O, Sub.of (List.Sublist.refl _), h0⟩ (fun s ρ O ⟨O2, hs, hi⟩ => T.sub hs (h s ρ O2 hi))
theorem run_loadBox1 {P : Program} {T E : TypeId} {d : TypeDesc} {b : Nat} {v : Value} {cs : List Value} {fr : Nat × Nat} {w : World} (hu : P.underlying T = some d) (ha : aggB d = false) (hw : w.heap[b]? = some (.cells (v :: cs).toArray E fr)) :
    (loadVar T ⟨b, 0, none⟩).run P w = .ok v w := by
  have hc : w.cell? ⟨b, 0, none⟩ = some v := by unfold World.cell?; simp [hw]
  simp [loadVar, run_isAgg' hu, ha, hc]
theorem Res.cell2s {P : Program} {base : World} {ρ : Env} {O : List Item} {fn : Func} {R : Value → List Item → Prop} {a i c j : Nat} {T U E E' : TypeId} {d d' : TypeDesc} {b b' : Nat} {v u : Value} {cs cs' : List Value} {fr fr' : Nat × Nat} (hr : fn.results = #[.cell a T, .cell c U]) (hu : P.underlying T = some d) (ha : aggB d = false) (hu' : P.underlying U = some d') (ha' : aggB d' = false)
    (hp : ρ a = .pointer (some ⟨b, 0, none⟩)) (hp' : ρ c = .pointer (some ⟨b', 0, none⟩)) (hO : O[i]? = some (objI b (.cells (v :: cs).toArray E fr))) (hO' : O[j]? = some (objI b' (.cells (u :: cs').toArray E' fr')))
    (h : R (.tuple #[v, u]) O) : Res P base fn ρ O R :=
  ⟨⟨_, O, Sub.of (List.Sublist.refl _), h, fun w tmps hI ht => by
    have h1 := run_loadBox1 (P := P) hu ha (hI.objAt hO)
    have h2 := run_loadBox1 (P := P) hu' ha' (hI.objAt hO')
    have ht' := ht a
    have hc := ht c
    simp only [Array.getD_eq_getD_getElem?] at ht' hc
    simp [results, hr, ht', hc, hp, hp', asAddr, h1, h2]⟩⟩
structure EdgeT (P : Program) (kt : TypeId) (f1 f2 f3 f4 : Field) : Prop where
  under : P.underlying kt = some (.struct #[f1, f2, f3, f4])
  u1 : P.underlying f1.type = some (.int .i64)
  u2 : P.underlying f2.type = some (.int .i64)
  u3 : P.underlying f3.type = some (.int .u8)
  u4 : P.underlying f4.type = some (.int .u8)
  o1 : f1.offset = 0
  o2 : f2.offset = 1
  o3 : f3.offset = 2
  o4 : f4.offset = 3
  n1 : f1.name ≠ "_"
  n2 : f2.name ≠ "_"
  n3 : f3.name ≠ "_"
  n4 : f4.name ≠ "_"
  held : P.stoodInHeld kt = false
  guard : P.eqGuardType P.depth kt = false
theorem run_equal_intK {P : Program} {T : TypeId} {k k' : IntKind} (h : P.underlying T = some (.int k)) (d : Nat) (a b : Int) (w : World) : (Op.equalIn (d + 1) T (.int k' a) (.int k' b)).run P w = .ok (a == b) w := by
  rw [Op.equalIn]
  simp [run_underlying' h]
theorem EdgeT.equal {P : Program} {kt : TypeId} {f1 f2 f3 f4 : Field} (h : EdgeT P kt f1 f2 f3 f4) (a b c e a' b' c' e' : Int) (w : World) :
    (Op.equal kt (.agg #[.int .i64 a, .int .i64 b, .int .u8 c, .int .u8 e]) (.agg #[.int .i64 a', .int .i64 b', .int .u8 c', .int .u8 e'])).run P w = .ok (decide (a = a' ∧ b = b' ∧ c = c' ∧ e = e')) w := by
  show (Op.equalIn (9998 + 1 + 1) kt _ _).run P w = _
  rw [Op.equalIn]
  have p1 : ∀ (a b c e : Int), (part f1.type #[.int .i64 a, .int .i64 b, .int .u8 c, .int .u8 e] f1.offset).run P w = .ok (.int .i64 a) w := fun a b c e => by simp [part, run_isAgg' h.u1, aggB, h.o1]
  have p2 : ∀ (a b c e : Int), (part f2.type #[.int .i64 a, .int .i64 b, .int .u8 c, .int .u8 e] f2.offset).run P w = .ok (.int .i64 b) w := fun a b c e => by simp [part, run_isAgg' h.u2, aggB, h.o2]
  have p3 : ∀ (a b c e : Int), (part f3.type #[.int .i64 a, .int .i64 b, .int .u8 c, .int .u8 e] f3.offset).run P w = .ok (.int .u8 c) w := fun a b c e => by simp [part, run_isAgg' h.u3, aggB, h.o3]
  have p4 : ∀ (a b c e : Int), (part f4.type #[.int .i64 a, .int .i64 b, .int .u8 c, .int .u8 e] f4.offset).run P w = .ok (.int .u8 e) w := fun a b c e => by simp [part, run_isAgg' h.u4, aggB, h.o4]
  simp [run_underlying' h.under, h.held, h.n1, h.n2, h.n3, h.n4, p1, p2, p3, p4, run_equal_intK h.u1, run_equal_intK h.u2, run_equal_intK h.u3, run_equal_intK h.u4]
  by_cases e1 : a = a'
  · by_cases e2 : b = b'
    · by_cases e3 : c = c'
      · by_cases e4 : e = e'
        · simp [e1, e2, e3, e4]
        · simp [e1, e2, e3, e4]
      · simp [e1, e2, e3]
    · simp [e1, e2]
  · simp [e1]
section
variable {P : Program} {base : World} {ρ : Env} {O : List Item} {dst : Option Nat} {t : TypeId} {p : String} {af : Array Edge} {g : Option (Nat × Bool)}
theorem EdgeT.pre {kt : TypeId} {f1 f2 f3 f4 : Field} (h : EdgeT P kt f1 f2 f3 f4) (op : BinOp) (x y : Operand) (a b : Array Value) (w : World) : (eqGuard op kt x y (.agg a) (.agg b)).run P w = .ok () w := by
  unfold eqGuard
  cases op <;> simp [h.guard]
def EdgeX (P : Program) (kt : TypeId) : Prop := ∃ f1 f2 f3 f4, EdgeT P kt f1 f2 f3 f4
theorem q_edgeNeq {x y : Operand} {kt U : TypeId} {a b c e a' b' c' e' : Int} (h : EdgeX P kt) (hx : ev ρ x = .agg #[.int .i64 a, .int .i64 b, .int .u8 c, .int .u8 e]) (hy : ev ρ y = .agg #[.int .i64 a', .int .i64 b', .int .u8 c', .int .u8 e']) :
    QT P base ⟨dst, .binOp .neq kt x y U, t, p, af, g⟩ ρ O (.bool (decide (¬ (a = a' ∧ b = b' ∧ c = c' ∧ e = e')))) := fun w _ => by
  obtain ⟨_, _, _, _, h⟩ := h
  simp only [execOp, hx, hy]
  simp [h.pre, binOp, h.equal]
theorem q_edgeEql {x y : Operand} {kt U : TypeId} {a b c e a' b' c' e' : Int} (h : EdgeX P kt) (hx : ev ρ x = .agg #[.int .i64 a, .int .i64 b, .int .u8 c, .int .u8 e]) (hy : ev ρ y = .agg #[.int .i64 a', .int .i64 b', .int .u8 c', .int .u8 e']) :
    QT P base ⟨dst, .binOp .eql kt x y U, t, p, af, g⟩ ρ O (.bool (decide (a = a' ∧ b = b' ∧ c = c' ∧ e = e'))) := fun w _ => by
  obtain ⟨_, _, _, _, h⟩ := h
  simp only [execOp, hx, hy]
  simp [h.pre, binOp, h.equal]
end
end Go.Lx

namespace Go.Lx
inductive Rch (E : Nat → Nat → Prop) : Nat → Nat → Prop
  | refl (v : Nat) : Rch E v v
  | step {u v w : Nat} : E u v → Rch E v w → Rch E u w
section
variable {E : Nat → Nat → Prop}
theorem Rch.one {u v : Nat} (h : E u v) : Rch E u v := .step h (.refl _)
theorem Rch.trans {u v w : Nat} (h : Rch E u v) (h2 : Rch E v w) : Rch E u w := by
  induction h with
  | refl => exact h2
  | step e _ ih => exact .step e (ih h2)
theorem Rch.tail {u v w : Nat} (h : Rch E u v) (e : E v w) : Rch E u w := h.trans (.one e)
theorem Rch.closed {S : Nat → Prop} (hc : ∀ u v, S u → E u v → S v) {u v : Nat} (h : Rch E u v) (hu : S u) : S v := by
  induction h with
  | refl => exact hu
  | step e _ ih => exact ih (hc _ _ hu e)
theorem Rch.mono {F : Nat → Nat → Prop} (hf : ∀ u v, E u v → F u v) {u v : Nat} (h : Rch E u v) : Rch F u v := by
  induction h with
  | refl => exact .refl _
  | step e _ ih => exact .step (hf _ _ e) ih
theorem Rch.last {u v : Nat} (h : Rch E u v) : u = v ∨ ∃ w, Rch E u w ∧ E w v := by
  induction h with
  | refl => exact .inl rfl
  | @step a b c e _ ih =>
    rcases ih with rfl | ⟨w, h1, h2⟩
    · exact .inr ⟨a, .refl _, e⟩
    · exact .inr ⟨w, .step e h1, h2⟩
structure TS where
  idx : Nat → Nat
  low : Nat → Nat
  comp : Nat → Int
  stk : List Nat
  clk : Nat
  cnt : Nat
structure TInv (n : Nat) (E : Nat → Nat → Prop) (gray : List Nat) (s : TS) : Prop where
  clk : ∀ v, s.idx v ≤ s.clk
  inj : ∀ u v, s.idx u ≠ 0 → s.idx u = s.idx v → u = v
  vis : ∀ v, s.idx v ≠ 0 → v < n
  srt : s.stk.Pairwise (fun u v => s.idx u < s.idx v)
  mem : ∀ v, v ∈ s.stk ↔ s.idx v ≠ 0 ∧ s.comp v < 0
  cmp : ∀ v, 0 ≤ s.comp v → s.idx v ≠ 0 ∧ s.comp v < s.cnt
  clo : ∀ u v, 0 ≤ s.comp u → E u v → 0 ≤ s.comp v ∧ s.comp v ≤ s.comp u
  cls : ∀ u v, 0 ≤ s.comp u → s.comp u = s.comp v → Rch E u v
  gry : ∀ g ∈ gray, g ∈ s.stk
  dn : ∀ x ∈ s.stk, ∃ g ∈ gray, s.idx g ≤ s.idx x ∧ Rch E x g
  up : ∀ g ∈ gray, ∀ y ∈ s.stk, s.idx g ≤ s.idx y → Rch E g y
  blk : ∀ u v, s.idx u ≠ 0 → u ∉ gray → E u v → s.idx v ≠ 0
structure TExt (s s' : TS) (t : List Nat) : Prop where
  idx : ∀ x, s.idx x ≠ 0 → s'.idx x = s.idx x
  low : ∀ x, s.idx x ≠ 0 → s'.low x = s.low x
  comp : ∀ x, s.idx x ≠ 0 → s'.comp x = s.comp x
  stk : s'.stk = s.stk ++ t
  clk : s.clk ≤ s'.clk
  new : ∀ x, s.idx x = 0 → s'.idx x ≠ 0 → s.clk < s'.idx x
def VPost (E : Nat → Nat → Prop) (s s' : TS) (t : List Nat) (v : Nat) : Prop :=
  s'.idx v ≠ 0 ∧ ((s'.comp v < 0 ∧ (∃ y ∈ s'.stk, s'.idx y = s'.low v ∧ Rch E v y) ∧ ∀ x ∈ t, ∀ u, E x u → u ∈ s.stk → s'.low v ≤ s.idx u) ∨ (0 ≤ s'.comp v ∧ t = [] ∧ s'.low v = s'.idx v))
structure VLoop (n : Nat) (E : Nat → Nat → Prop) (gray : List Nat) (s0 : TS) (v : Nat) (nx : List Nat) (k : Nat) (s : TS) (t : List Nat) : Prop where
  inv : TInv n E (gray ++ [v]) s
  idx : ∀ x, s0.idx x ≠ 0 → s.idx x = s0.idx x
  low : ∀ x, s0.idx x ≠ 0 → s.low x = s0.low x
  comp : ∀ x, s0.idx x ≠ 0 → s.comp x = s0.comp x
  clk : s0.clk ≤ s.clk
  new : ∀ x, s0.idx x = 0 → s.idx x ≠ 0 → s0.clk < s.idx x
  v0 : s0.idx v = 0
  v1 : s.idx v = s0.clk + 1
  stk : s.stk = s0.stk ++ v :: t
  lowv : s.low v ≤ s.idx v
  wit : ∃ y ∈ s.stk, s.idx y = s.low v ∧ Rch E v y
  cross : ∀ x ∈ t, ∀ u, E x u → u ∈ s0.stk → s.low v ≤ s0.idx u
  done : ∀ u ∈ nx.take k, s.idx u ≠ 0 ∧ (u ∈ s0.stk → s.low v ≤ s0.idx u)
theorem VLoop.enter {n : Nat} {gray : List Nat} {s0 : TS} {v : Nat} {nx : List Nat} {low : Nat → Nat} {idx : Nat → Nat} {comp : Nat → Int} (h : TInv n E gray s0) (hv : s0.idx v = 0) (hn : v < n) (hg : ∀ g ∈ gray, Rch E g v)
    (hi : ∀ x, idx x = if x = v then s0.clk + 1 else s0.idx x) (hl : ∀ x, low x = if x = v then s0.clk + 1 else s0.low x) (hcv : s0.comp v < 0) (hc : ∀ x, comp x = s0.comp x) :
    VLoop n E gray s0 v nx 0 { idx := idx, low := low, comp := comp, stk := s0.stk ++ [v], clk := s0.clk + 1, cnt := s0.cnt } [] := by
  have hns : v ∉ s0.stk := fun hm => ((h.mem v).1 hm).1 hv
  have hne : ∀ x, s0.idx x ≠ 0 → x ≠ v := fun x hx e => hx (e ▸ hv)
  have hiv : idx v = s0.clk + 1 := by rw [hi]; simp
  have hio : ∀ x, s0.idx x ≠ 0 → idx x = s0.idx x := fun x hx => by rw [hi, if_neg (hne x hx)]
  have hix : ∀ x, idx x ≠ 0 → x = v ∨ s0.idx x ≠ 0 := fun x hx => by
    rw [hi] at hx; split at hx
    · exact .inl ‹_›
    · exact .inr hx
  refine { inv := ?_, idx := hio, low := fun x hx => by show low x = _; rw [hl, if_neg (hne x hx)], comp := fun x _ => hc x, clk := Nat.le_succ _, new := ?_, v0 := hv, v1 := hiv, stk := rfl, lowv := by show low v ≤ idx v; rw [hl, hi]; simp, wit := ⟨v, by simp, by show idx v = low v; rw [hl, hi]; simp, .refl _⟩, cross := by simp, done := by simp }
  · refine { clk := ?_, inj := ?_, vis := ?_, srt := ?_, mem := ?_, cmp := ?_, clo := ?_, cls := ?_, gry := ?_, dn := ?_, up := ?_, blk := ?_ }
    · intro x; show idx x ≤ s0.clk + 1; rw [hi]; split
      · omega
      · exact Nat.le_succ_of_le (h.clk x)
    · intro a b ha hab
      change idx a ≠ 0 at ha; change idx a = idx b at hab
      rcases hix a ha with rfl | ha'
      · by_cases e : b = a
        · exact e.symm
        · rw [hiv, hi b, if_neg e] at hab
          have := h.clk b; omega
      · rw [hio a ha'] at hab
        by_cases e : b = v
        · subst e; rw [hiv] at hab; have := h.clk a; omega
        · rw [hi b, if_neg e] at hab; exact h.inj a b ha' hab
    · intro x hx
      rcases hix x hx with rfl | hx
      · exact hn
      · exact h.vis x hx
    · show (s0.stk ++ [v]).Pairwise _
      rw [List.pairwise_append]
      refine ⟨h.srt.imp_of_mem fun {a b} ha hb hab => ?_, by simp, fun a ha b hb => ?_⟩
      · show idx a < idx b
        rw [hio a ((h.mem a).1 ha).1, hio b ((h.mem b).1 hb).1]; exact hab
      · simp at hb; subst hb
        show idx a < idx b
        rw [hio a ((h.mem a).1 ha).1, hiv]
        have := h.clk a; omega
    · intro x
      show x ∈ s0.stk ++ [v] ↔ idx x ≠ 0 ∧ comp x < 0
      rw [hc]
      constructor
      · intro hx
        rcases List.mem_append.1 hx with hx | hx
        · have := (h.mem x).1 hx; exact ⟨by rw [hio x this.1]; exact this.1, this.2⟩
        · simp at hx; subst hx; exact ⟨by rw [hiv]; omega, hcv⟩
      · rintro ⟨h1, h2⟩
        rcases hix x h1 with rfl | h1
        · simp
        · exact List.mem_append_left _ ((h.mem x).2 ⟨h1, h2⟩)
    · intro x hx
      change 0 ≤ comp x at hx; rw [hc] at hx
      show idx x ≠ 0 ∧ comp x < s0.cnt
      have := h.cmp x hx; rw [hc, hio x this.1]; exact this
    · intro a b ha hab
      change 0 ≤ comp a at ha
      show 0 ≤ comp b ∧ comp b ≤ comp a
      rw [hc] at ha; rw [hc, hc]; exact h.clo a b ha hab
    · intro a b ha hab
      change 0 ≤ comp a at ha; change comp a = comp b at hab
      rw [hc] at ha; rw [hc, hc] at hab; exact h.cls a b ha hab
    · intro g hgm
      show g ∈ s0.stk ++ [v]
      rcases List.mem_append.1 hgm with hgm | hgm
      · exact List.mem_append_left _ (h.gry g hgm)
      · exact List.mem_append_right _ hgm
    · intro x hx
      change x ∈ s0.stk ++ [v] at hx
      rcases List.mem_append.1 hx with hx | hx
      · obtain ⟨g, h1, h2, h3⟩ := h.dn x hx
        refine ⟨g, List.mem_append_left _ h1, ?_, h3⟩
        show idx g ≤ idx x
        rw [hio x ((h.mem x).1 hx).1, hio g ((h.mem g).1 (h.gry g h1)).1]; exact h2
      · simp at hx; subst hx
        exact ⟨x, by simp, Nat.le_refl _, .refl _⟩
    · intro g hgm y hy hle
      change y ∈ s0.stk ++ [v] at hy; change idx g ≤ idx y at hle
      rcases List.mem_append.1 hgm with hg1 | hgm
      · have hgs := h.gry g hg1
        rcases List.mem_append.1 hy with hy | hy
        · rw [hio g ((h.mem g).1 hgs).1, hio y ((h.mem y).1 hy).1] at hle
          exact h.up g hg1 y hy hle
        · obtain rfl : y = v := by simpa using hy
          exact hg g hg1
      · obtain rfl : g = v := by simpa using hgm
        rcases List.mem_append.1 hy with hy | hy
        · rw [hiv, hio y ((h.mem y).1 hy).1] at hle
          have := h.clk y; omega
        · obtain rfl : y = g := by simpa using hy
          exact .refl _
    · intro a b ha hga hab
      have hav : a ≠ v := fun e => hga (by simp [e])
      rcases hix a ha with e | ha
      · exact absurd e hav
      · have := h.blk a b ha (fun hm => hga (List.mem_append_left _ hm)) hab
        show idx b ≠ 0
        rw [hio b this]; exact this
  · intro x h0 h1
    rcases hix x h1 with rfl | h2
    · show s0.clk < idx x; rw [hiv]; omega
    · exact absurd h0 h2
theorem TInv.low {n : Nat} {gray : List Nat} {s : TS} (h : TInv n E gray s) (low : Nat → Nat) : TInv n E gray { s with low := low } :=
  { clk := h.clk, inj := h.inj, vis := h.vis, srt := h.srt, mem := h.mem, cmp := h.cmp, clo := h.clo, cls := h.cls, gry := h.gry, dn := h.dn, up := h.up, blk := h.blk }
theorem TInv.ext {n : Nat} {gray : List Nat} {s : TS} (h : TInv n E gray s) {idx : Nat → Nat} {low : Nat → Nat} {comp : Nat → Int} (hi : ∀ x, idx x = s.idx x) (hc : ∀ x, comp x = s.comp x) : TInv n E gray { s with low := low, idx := idx, comp := comp } := by
  obtain rfl : idx = s.idx := funext hi
  obtain rfl : comp = s.comp := funext hc
  exact h.low low
section
variable {n : Nat} {gray : List Nat} {s0 s : TS} {v : Nat} {nx : List Nat} {k : Nat} {t : List Nat}
theorem VLoop.vstk (h : VLoop n E gray s0 v nx k s t) : v ∈ s.stk := by rw [h.stk]; simp
theorem VLoop.old (h : VLoop n E gray s0 v nx k s t) (h0 : TInv n E gray s0) {x : Nat} (hx : x ∈ s0.stk) : s0.idx x ≠ 0 ∧ s.idx x = s0.idx x ∧ s.idx x < s.idx v := by
  have h1 := ((h0.mem x).1 hx).1
  refine ⟨h1, h.idx x h1, ?_⟩
  rw [h.idx x h1, h.v1]; have := h0.clk x; omega
theorem VLoop.tnew (h : VLoop n E gray s0 v nx k s t) {x : Nat} (hx : x ∈ t) : s.idx v < s.idx x := by
  have := h.inv.srt; rw [h.stk, List.pairwise_append] at this
  have := this.2.1; rw [List.pairwise_cons] at this
  exact this.1 x hx
theorem VLoop.notgray (h : VLoop n E gray s0 v nx k s t) (h0 : TInv n E gray s0) {x : Nat} (hx : x ∈ t) : x ∉ gray ++ [v] := fun hm => by
  have h1 := h.tnew hx
  rcases List.mem_append.1 hm with hm | hm
  · have := (h.old h0 (h0.gry x hm)).2.2; omega
  · simp at hm; subst hm; omega
theorem VLoop.stepSkip (h : VLoop n E gray s0 v nx k s t) {u : Nat} (hk : k < nx.length) (hu : nx[k] = u) (hi : s.idx u ≠ 0) (hc : 0 ≤ s.comp u) (h0 : TInv n E gray s0) : VLoop n E gray s0 v nx (k + 1) s t :=
  { h with done := (by
      intro x hx
      rw [List.take_succ_eq_append_getElem hk, List.mem_append] at hx
      rcases hx with hx | hx
      · exact h.done x hx
      · simp at hx; rw [hu] at hx; subst hx
        refine ⟨hi, fun hm => ?_⟩
        have h1 := (h0.mem x).1 hm
        rw [h.comp x h1.1] at hc; omega) }
theorem VLoop.stepBack (h : VLoop n E gray s0 v nx k s t) {u : Nat} (hk : k < nx.length) (hu : nx[k] = u) (hE : E v u) (hi : s.idx u ≠ 0) (hc : s.comp u < 0) (h0 : TInv n E gray s0) {low : Nat → Nat}
    (hl : ∀ x, low x = if x = v then min (s.low v) (s.idx u) else s.low x) : VLoop n E gray s0 v nx (k + 1) { s with low := low } t := by
  have hlv : low v = min (s.low v) (s.idx u) := by rw [hl]; simp
  have hle : low v ≤ s.low v := by rw [hlv]; exact Nat.min_le_left _ _
  refine { inv := h.inv.low low, idx := h.idx, low := ?_, comp := h.comp, clk := h.clk, new := h.new, v0 := h.v0, v1 := h.v1, stk := h.stk, lowv := ?_, wit := ?_, cross := ?_, done := ?_ }
  · intro x hx
    show low x = _
    rw [hl, if_neg (fun e => hx (by rw [e]; exact h.v0))]; exact h.low x hx
  · show low v ≤ s.idx v; exact Nat.le_trans hle h.lowv
  · obtain ⟨y, hy, h1, h2⟩ := h.wit
    show ∃ y ∈ s.stk, s.idx y = low v ∧ Rch E v y
    rw [hlv]
    by_cases hm : s.low v ≤ s.idx u
    · exact ⟨y, hy, by rw [Nat.min_eq_left hm]; exact h1, h2⟩
    · exact ⟨u, (h.inv.mem u).2 ⟨hi, hc⟩, by rw [Nat.min_eq_right (by omega)], .one hE⟩
  · intro x hx w hw hm
    exact Nat.le_trans hle (h.cross x hx w hw hm)
  · intro x hx
    show s.idx x ≠ 0 ∧ (x ∈ s0.stk → low v ≤ s0.idx x)
    rw [List.take_succ_eq_append_getElem hk, List.mem_append] at hx
    rcases hx with hx | hx
    · exact ⟨(h.done x hx).1, fun hm => Nat.le_trans hle ((h.done x hx).2 hm)⟩
    · simp at hx; rw [hu] at hx; subst hx
      refine ⟨hi, fun hm => ?_⟩
      rw [hlv, ← (h.old h0 hm).2.1]; exact Nat.min_le_right _ _
theorem VLoop.stepTree (h : VLoop n E gray s0 v nx k s t) {u : Nat} (hk : k < nx.length) (hu : nx[k] = u) (hE : E v u) (hi0 : s.idx u = 0) (h0 : TInv n E gray s0) {s' : TS} {t2 : List Nat} (hI : TInv n E (gray ++ [v]) s') (hX : TExt s s' t2) (hP : VPost E s s' t2 u) {low : Nat → Nat}
    (hl : ∀ x, low x = if x = v then min (s'.low v) (s'.low u) else s'.low x) : VLoop n E gray s0 v nx (k + 1) { s' with low := low } (t ++ t2) := by
  have hsv : s.idx v ≠ 0 := by rw [h.v1]; omega
  have hlv0 : s'.low v = s.low v := hX.low v hsv
  have hiv : s'.idx v = s.idx v := hX.idx v hsv
  have hlv : low v = min (s.low v) (s'.low u) := by rw [hl, if_pos rfl, hlv0]
  have hle : low v ≤ s.low v := by rw [hlv]; exact Nat.min_le_left _ _
  have hso : ∀ x, s0.idx x ≠ 0 → s.idx x ≠ 0 := fun x hx => by rw [h.idx x hx]; exact hx
  refine { inv := hI.low low, idx := fun x hx => (hX.idx x (hso x hx)).trans (h.idx x hx), low := ?_, comp := fun x hx => (hX.comp x (hso x hx)).trans (h.comp x hx), clk := Nat.le_trans h.clk hX.clk, new := ?_, v0 := h.v0, v1 := hiv.trans h.v1, stk := ?_, lowv := ?_, wit := ?_, cross := ?_, done := ?_ }
  · intro x hx
    show low x = _
    rw [hl, if_neg (fun e => hx (by rw [e]; exact h.v0)), hX.low x (hso x hx)]; exact h.low x hx
  · intro x hx0 hx1
    change s'.idx x ≠ 0 at hx1
    show s0.clk < s'.idx x
    by_cases hx2 : s.idx x = 0
    · have := hX.new x hx2 hx1; have := h.clk; omega
    · rw [hX.idx x hx2]; exact h.new x hx0 hx2
  · show s'.stk = _
    rw [hX.stk, h.stk]; simp
  · show low v ≤ s'.idx v
    rw [hiv]; exact Nat.le_trans hle h.lowv
  · obtain ⟨y, hy, h1, h2⟩ := h.wit
    show ∃ y ∈ s'.stk, s'.idx y = low v ∧ Rch E v y
    have hold : low v = s.low v → ∃ y ∈ s'.stk, s'.idx y = low v ∧ Rch E v y := fun e =>
      ⟨y, by rw [hX.stk]; exact List.mem_append_left _ hy, by rw [hX.idx y ((h.inv.mem y).1 hy).1, e]; exact h1, h2⟩
    rcases hP.2 with ⟨_, ⟨z, hz, hz1, hz2⟩, _⟩ | ⟨_, _, h5⟩
    · by_cases hm : s.low v ≤ s'.low u
      · exact hold (by rw [hlv, Nat.min_eq_left hm])
      · exact ⟨z, hz, by rw [hz1, hlv, Nat.min_eq_right (by omega)], .step hE hz2⟩
    · refine hold ?_
      rw [hlv, Nat.min_eq_left]
      rw [h5]
      have hlo := h.lowv
      have := hX.new u hi0 hP.1
      have := h.inv.clk v
      omega
  · intro x hx w hw hm
    show low v ≤ s0.idx w
    rcases List.mem_append.1 hx with hx | hx
    · exact Nat.le_trans hle (h.cross x hx w hw hm)
    · rcases hP.2 with ⟨_, _, h4⟩ | ⟨_, h4, _⟩
      · have hws : w ∈ s.stk := by rw [h.stk]; exact List.mem_append_left _ hm
        have := h4 x hx w hw hws
        rw [(h.old h0 hm).2.1] at this
        rw [hlv]; exact Nat.le_trans (Nat.min_le_right _ _) this
      · rw [h4] at hx; cases hx
  · intro x hx
    show s'.idx x ≠ 0 ∧ (x ∈ s0.stk → low v ≤ s0.idx x)
    rw [List.take_succ_eq_append_getElem hk, List.mem_append] at hx
    rcases hx with hx | hx
    · have := h.done x hx
      exact ⟨by rw [hX.idx x this.1]; exact this.1, fun hm => Nat.le_trans hle (this.2 hm)⟩
    · simp at hx; rw [hu] at hx; subst hx
      refine ⟨hP.1, fun hm => ?_⟩
      have := h.old h0 hm
      rw [hi0] at this; omega
theorem VLoop.leave (h : VLoop n E gray s0 v nx k s t) (h0 : TInv n E gray s0) (hk : nx.length ≤ k) (hnx : ∀ u, E v u → u ∈ nx) (hne : s.low v ≠ s.idx v) : TInv n E gray s ∧ TExt s0 s (v :: t) ∧ VPost E s0 s (v :: t) v := by
  have hlt : s.low v < s.idx v := by have := h.lowv; omega
  have hv := h.inv.mem v |>.1 h.vstk
  obtain ⟨y, hy, hy1, hy2⟩ := h.wit
  have hdone : ∀ u, E v u → s.idx u ≠ 0 ∧ (u ∈ s0.stk → s.low v ≤ s0.idx u) := fun u hu => by
    have := h.done u; rw [List.take_of_length_le hk] at this; exact this (hnx u hu)
  refine ⟨{ clk := h.inv.clk, inj := h.inv.inj, vis := h.inv.vis, srt := h.inv.srt, mem := h.inv.mem, cmp := h.inv.cmp, clo := h.inv.clo, cls := h.inv.cls, gry := fun g hg => h.inv.gry g (List.mem_append_left _ hg), dn := ?_, up := fun g hg => h.inv.up g (List.mem_append_left _ hg), blk := ?_ }, ?_, hv.1, .inl ⟨hv.2, ⟨y, hy, hy1, hy2⟩, ?_⟩⟩
  · intro x hx
    obtain ⟨g, h1, h2, h3⟩ := h.inv.dn x hx
    rcases List.mem_append.1 h1 with h1 | h1
    · exact ⟨g, h1, h2, h3⟩
    · simp at h1; subst h1
      obtain ⟨g', h4, h5, h6⟩ := h.inv.dn y hy
      rcases List.mem_append.1 h4 with h4 | h4
      · exact ⟨g', h4, by omega, h3.trans (hy2.trans h6)⟩
      · simp at h4; subst h4; omega
  · intro a b ha hga hab
    by_cases e : a = v
    · subst e; exact (hdone b hab).1
    · exact h.inv.blk a b ha (by simp [hga, e]) hab
  · exact ⟨h.idx, h.low, h.comp, h.stk, h.clk, h.new⟩
  · intro x hx u hu hm
    rcases List.mem_cons.1 hx with rfl | hx
    · exact (hdone u hu).2 hm
    · exact h.cross x hx u hu hm
theorem VLoop.pop (h : VLoop n E gray s0 v nx k s t) (h0 : TInv n E gray s0) (hk : nx.length ≤ k) (hnx : ∀ u, E v u → u ∈ nx) (he : s.low v = s.idx v) {comp : Nat → Int} (hc : ∀ x, comp x = if x ∈ v :: t then (s.cnt : Int) else s.comp x) :
    TInv n E gray { s with comp := comp, stk := s0.stk, cnt := s.cnt + 1 } ∧ TExt s0 { s with comp := comp, stk := s0.stk, cnt := s.cnt + 1 } [] ∧ VPost E s0 { s with comp := comp, stk := s0.stk, cnt := s.cnt + 1 } [] v := by
  have hdone : ∀ u, E v u → s.idx u ≠ 0 ∧ (u ∈ s0.stk → s.low v ≤ s0.idx u) := fun u hu => by
    have := h.done u; rw [List.take_of_length_le hk] at this; exact this (hnx u hu)
  have hmem : ∀ x, x ∈ v :: t ↔ x ∈ s.stk ∧ x ∉ s0.stk := fun x => by
    rw [h.stk, List.mem_append]
    refine ⟨fun hx => ⟨.inr hx, fun hm => ?_⟩, fun hx => hx.1.resolve_left hx.2⟩
    have h1 := (h.old h0 hm).2.2
    rcases List.mem_cons.1 hx with rfl | hx
    · omega
    · have := h.tnew hx; omega
  have hcin : ∀ x, x ∈ v :: t → comp x = s.cnt := fun x hx => by rw [hc, if_pos hx]
  have hcout : ∀ x, x ∉ v :: t → comp x = s.comp x := fun x hx => by rw [hc, if_neg hx]
  have hsucc : ∀ x u, x ∈ v :: t → E x u → u ∈ v :: t ∨ 0 ≤ s.comp u := fun x u hx hu => by
    have hvis : s.idx u ≠ 0 := by
      rcases List.mem_cons.1 hx with rfl | hx
      · exact (hdone u hu).1
      · exact h.inv.blk x u ((h.inv.mem x).1 (by rw [h.stk]; simp [hx])).1 (h.notgray h0 hx) hu
    by_cases hcu : 0 ≤ s.comp u
    · exact .inr hcu
    · refine .inl ((hmem u).2 ⟨(h.inv.mem u).2 ⟨hvis, by omega⟩, fun hm => ?_⟩)
      have h1 := (h.old h0 hm).2
      have h2 : s.low v ≤ s0.idx u := by
        rcases List.mem_cons.1 hx with rfl | hx
        · exact (hdone u hu).2 hm
        · exact h.cross x hx u hu hm
      omega
  have hclosed : ∀ a b, (a ∈ v :: t ∨ 0 ≤ s.comp a) → E a b → b ∈ v :: t ∨ 0 ≤ s.comp b := fun a b ha hab => by
    rcases ha with ha | ha
    · exact hsucc a b ha hab
    · exact .inr (h.inv.clo a b ha hab).1
  have hneg : ∀ x ∈ v :: t, s.comp x < 0 := fun x hx => ((h.inv.mem x).1 ((hmem x).1 hx).1).2
  have hback : ∀ x ∈ v :: t, Rch E x v := fun x hx => by
    obtain ⟨g, h1, h2, h3⟩ := h.inv.dn x ((hmem x).1 hx).1
    rcases List.mem_append.1 h1 with h1 | h1
    · exfalso
      have hgs := h0.gry g h1
      rcases h3.closed hclosed (.inl hx) with h4 | h4
      · exact ((hmem g).1 h4).2 hgs
      · have h5 := (h0.mem g).1 hgs
        rw [h.comp g h5.1] at h4; omega
    · simp at h1; subst h1; exact h3
  have hforth : ∀ x ∈ v :: t, Rch E v x := fun x hx => by
    refine h.inv.up v (by simp) x ((hmem x).1 hx).1 ?_
    rcases List.mem_cons.1 hx with rfl | hx
    · exact Nat.le_refl _
    · exact Nat.le_of_lt (h.tnew hx)
  refine ⟨?_, ⟨h.idx, h.low, ?_, by simp, h.clk, h.new⟩, ?_, ?_⟩
  · refine { clk := h.inv.clk, inj := h.inv.inj, vis := h.inv.vis, srt := ?_, mem := ?_, cmp := ?_, clo := ?_, cls := ?_, gry := ?_, dn := ?_, up := ?_, blk := ?_ }
    · have := h.inv.srt; rw [h.stk, List.pairwise_append] at this; exact this.1
    · intro x
      show x ∈ s0.stk ↔ s.idx x ≠ 0 ∧ comp x < 0
      constructor
      · intro hx
        have h1 := (h0.mem x).1 hx
        refine ⟨by rw [h.idx x h1.1]; exact h1.1, ?_⟩
        rw [hcout x (fun hm => ((hmem x).1 hm).2 hx), h.comp x h1.1]; exact h1.2
      · rintro ⟨h1, h2⟩
        by_cases hx : x ∈ v :: t
        · rw [hcin x hx] at h2; omega
        · rw [hcout x hx] at h2
          have h3 := (h.inv.mem x).2 ⟨h1, h2⟩
          by_cases h4 : x ∈ s0.stk
          · exact h4
          · exact absurd ((hmem x).2 ⟨h3, h4⟩) hx
    · intro x hx
      show s.idx x ≠ 0 ∧ comp x < ((s.cnt + 1 : Nat) : Int)
      change 0 ≤ comp x at hx
      by_cases hm : x ∈ v :: t
      · refine ⟨((h.inv.mem x).1 ((hmem x).1 hm).1).1, ?_⟩
        rw [hcin x hm]; omega
      · rw [hcout x hm] at hx ⊢
        have := h.inv.cmp x hx
        exact ⟨this.1, by omega⟩
    · intro a b ha hab
      show 0 ≤ comp b ∧ comp b ≤ comp a
      change 0 ≤ comp a at ha
      by_cases hm : a ∈ v :: t
      · rw [hcin a hm]
        rcases hsucc a b hm hab with h1 | h1
        · rw [hcin b h1]; omega
        · have h2 := h.inv.cmp b h1
          rw [hcout b (fun hx => by have := hneg b hx; omega)]; omega
      · rw [hcout a hm] at ha ⊢
        have h1 := h.inv.clo a b ha hab
        rw [hcout b (fun hx => by have := hneg b hx; omega)]; exact h1
    · intro a b ha hab
      change 0 ≤ comp a at ha; change comp a = comp b at hab
      by_cases hm : a ∈ v :: t
      · by_cases hmb : b ∈ v :: t
        · exact (hback a hm).trans (hforth b hmb)
        · rw [hcin a hm, hcout b hmb] at hab
          have := (h.inv.cmp b (by omega)).2; omega
      · rw [hcout a hm] at ha hab
        by_cases hmb : b ∈ v :: t
        · rw [hcin b hmb] at hab
          have := (h.inv.cmp a ha).2; omega
        · rw [hcout b hmb] at hab; exact h.inv.cls a b ha hab
    · exact h0.gry
    · intro x hx
      have h1 := h.old h0 hx
      obtain ⟨g, h4, h5, h6⟩ := h.inv.dn x (by rw [h.stk]; exact List.mem_append_left _ hx)
      rcases List.mem_append.1 h4 with h4 | h4
      · exact ⟨g, h4, h5, h6⟩
      · simp at h4; subst h4; omega
    · intro g hg y hy hle
      exact h.inv.up g (List.mem_append_left _ hg) y (by rw [h.stk]; exact List.mem_append_left _ hy) hle
    · intro a b ha hga hab
      by_cases e : a = v
      · subst e; exact (hdone b hab).1
      · exact h.inv.blk a b ha (by simp [hga, e]) hab
  · intro x hx
    show comp x = _
    rw [hcout x (fun hm => ?_)]
    · exact h.comp x hx
    · obtain ⟨h1, h2⟩ := (hmem x).1 hm
      have h3 := (h.inv.mem x).1 h1
      rw [h.comp x hx] at h3
      exact h2 ((h0.mem x).2 ⟨hx, h3.2⟩)
  · show s.idx v ≠ 0
    rw [h.v1]; omega
  · refine .inr ⟨?_, rfl, he⟩
    show 0 ≤ comp v
    rw [hcin v (by simp)]; omega
end
structure CompOk (n : Nat) (E : Nat → Nat → Prop) (comp : Nat → Int) (cnt : Nat) : Prop where
  pos : ∀ v, v < n → 0 ≤ comp v ∧ comp v < cnt
  clo : ∀ u v, u < n → E u v → comp v ≤ comp u
  cls : ∀ u v, u < n → v < n → comp u = comp v → Rch E u v
theorem TInv.done {n : Nat} {s : TS} (h : TInv n E [] s) (hv : ∀ v, v < n → s.idx v ≠ 0) : CompOk n E s.comp s.cnt := by
  have hp : ∀ v, v < n → 0 ≤ s.comp v := fun v hn => by
    by_cases hc : s.comp v < 0
    · obtain ⟨g, hg, _⟩ := h.dn v ((h.mem v).2 ⟨hv v hn, hc⟩); cases hg
    · omega
  exact ⟨fun v hn => ⟨hp v hn, (h.cmp v (hp v hn)).2⟩, fun u v hn e => (h.clo u v (hp u hn) e).2, fun u v hn _ e => h.cls u v (hp u hn) e⟩
theorem TInv.start (n : Nat) (low : Nat → Nat) : TInv n E [] { idx := fun _ => 0, low := low, comp := fun _ => -1, stk := [], clk := 0, cnt := 0 } :=
  ⟨fun _ => Nat.zero_le _, fun u v h => absurd rfl h, fun v h => absurd rfl h, List.Pairwise.nil, fun v => by simp, fun v h => absurd (show (0 : Int) ≤ -1 from h) (by decide), fun u v h => absurd (show (0 : Int) ≤ -1 from h) (by decide), fun u v h => absurd (show (0 : Int) ≤ -1 from h) (by decide), fun g h => (List.not_mem_nil h).elim, fun g h => (List.not_mem_nil h).elim, fun g h => (List.not_mem_nil h).elim, fun u v h => absurd rfl h⟩
theorem CompOk.rch {n : Nat} {comp : Nat → Int} {cnt : Nat} (h : CompOk n E comp cnt) (hE : ∀ u v, E u v → u < n ∧ v < n) {u v : Nat} (hu : u < n) (hr : Rch E u v) : comp v ≤ comp u ∧ v < n := by
  induction hr with
  | refl => exact ⟨Int.le_refl _, hu⟩
  | step e _ ih =>
    have h1 := hE _ _ e
    have h2 := ih h1.2
    have h3 := h.clo _ _ h1.1 e
    exact ⟨by omega, h2.2⟩
theorem CompOk.iff {n : Nat} {comp : Nat → Int} {cnt : Nat} (h : CompOk n E comp cnt) (hE : ∀ u v, E u v → u < n ∧ v < n) {u v : Nat} (hu : u < n) (hv : v < n) : comp u = comp v ↔ Rch E u v ∧ Rch E v u := by
  constructor
  · intro e; exact ⟨h.cls u v hu hv e, h.cls v u hv hu e.symm⟩
  · rintro ⟨h1, h2⟩
    have h3 := (h.rch hE hu h1).1
    have h4 := (h.rch hE hv h2).1
    omega
end
end Go.Lx

namespace Go.Lx
section
variable {E : Nat → Nat → Prop}
structure Pth (E : Nat → Nat → Prop) (p : Nat → Nat) (L : Nat) (u v : Nat) : Prop where
  s : p 0 = u
  e : p L = v
  st : ∀ i, i < L → E (p i) (p (i + 1))
theorem Pth.rch {p : Nat → Nat} : ∀ {L u v : Nat}, Pth E p L u v → Rch E u v
  | 0, u, v, h => by rw [← h.s, ← h.e]; exact .refl _
  | L + 1, u, v, h => by
    have h1 : Pth E p L u (p L) := ⟨h.s, rfl, fun i hi => h.st i (by omega)⟩
    have := h.st L (by omega)
    rw [h.e] at this
    exact h1.rch.tail this
theorem Pth.rchFrom {p : Nat → Nat} {L u v : Nat} (h : Pth E p L u v) {i j : Nat} (hij : i ≤ j) (hj : j ≤ L) : Rch E (p i) (p j) :=
  Pth.rch (p := fun k => p (i + k)) (L := j - i) ⟨rfl, by show p (i + (j - i)) = _; rw [Nat.add_sub_cancel' hij], fun k hk => h.st (i + k) (by omega)⟩
theorem Pth.cat {p q : Nat → Nat} {L K u v w : Nat} (h : Pth E p L u v) (g : Pth E q K v w) : Pth E (fun i => if i < L then p i else q (i - L)) (L + K) u w := by
  refine ⟨?_, ?_, fun i hi => ?_⟩
  · by_cases h0 : 0 < L
    · simp [h0, h.s]
    · have : L = 0 := by omega
      subst this
      simp; rw [g.s, ← h.e, h.s]
  · show (if L + K < L then p (L + K) else q (L + K - L)) = w
    rw [if_neg (by omega), Nat.add_sub_cancel_left]; exact g.e
  · by_cases h1 : i + 1 < L
    · have h2 : i < L := by omega
      simp only [h1, h2, if_true]; exact h.st i h2
    · by_cases h2 : i < L
      · have h3 : i + 1 = L := by omega
        simp only [h2, h1, if_true, if_false]
        rw [h3, Nat.sub_self, g.s, ← h.e, ← h3]; exact h.st i h2
      · simp only [h1, h2, if_false]
        rw [show i + 1 - L = (i - L) + 1 by omega]; exact g.st _ (by omega)
theorem Pth.edge {u v : Nat} (e : E u v) : Pth E (fun i => if i = 0 then u else v) 1 u v := by
  refine ⟨rfl, rfl, fun i hi => ?_⟩
  have h0 : i = 0 := by omega
  subst h0
  exact e
theorem Rch.pth {u v : Nat} (h : Rch E u v) : ∃ p L, Pth E p L u v := by
  induction h with
  | refl v => exact ⟨fun _ => v, 0, rfl, rfl, fun i hi => by omega⟩
  | @step u v w e _ ih =>
    obtain ⟨p, L, h⟩ := ih
    have h1 := Pth.edge e
    exact ⟨_, _, h1.cat h⟩
def Core (E : Nat → Nat → Prop) (m : Nat) (M : Nat → Nat → Prop) (v : Nat) : Prop := (∃ u, E v u ∧ Rch E u v) ∧ ∀ k, k < m → ∃ u, M k u ∧ Rch E v u ∧ Rch E u v
def LiveG (E : Nat → Nat → Prop) (m : Nat) (M : Nat → Nat → Prop) (v : Nat) : Prop := ∃ u, Rch E v u ∧ Core E m M u
structure Fair (E : Nat → Nat → Prop) (m : Nat) (M : Nat → Nat → Prop) (v : Nat) (r : Nat → Nat) : Prop where
  s : r 0 = v
  st : ∀ i, E (r i) (r (i + 1))
  inf : ∀ k, k < m → ∀ N, ∃ i, N ≤ i ∧ M k (r i)
theorem Core.round {m : Nat} {M : Nat → Nat → Prop} {v : Nat} (h : Core E m M v) : ∃ p L, Pth E p L v v ∧ 0 < L ∧ ∀ k, k < m → ∃ i, i < L ∧ M k (p i) := by
  have key : ∀ j, j ≤ m → ∃ p L, Pth E p L v v ∧ 0 < L ∧ ∀ k, k < j → ∃ i, i < L ∧ M k (p i) := by
    intro j
    induction j with
    | zero =>
      intro _
      obtain ⟨u, h1, h2⟩ := h.1
      obtain ⟨p, L, hp⟩ := h2.pth
      have h3 := Pth.edge h1
      exact ⟨_, _, h3.cat hp, by omega, fun k hk => by omega⟩
    | succ j ih =>
      intro hj
      obtain ⟨p, L, hp, hL, hm⟩ := ih (by omega)
      obtain ⟨u, h1, h2, h3⟩ := h.2 j (by omega)
      obtain ⟨q, K, hq⟩ := h2.pth
      obtain ⟨q', K', hq'⟩ := h3.pth
      have h4 := (hq.cat hq').cat hp
      refine ⟨_, _, h4, by omega, fun k hk => ?_⟩
      by_cases e : k = j
      · subst e
        refine ⟨K, by omega, ?_⟩
        by_cases hk' : 0 < K'
        · simp [show K < K + K' by omega, hq'.s, h1]
        · have hk0 : K' = 0 := by omega
          subst hk0
          simp only [Nat.add_zero, Nat.lt_irrefl, if_false, Nat.sub_self]
          have : u = v := by rw [← hq'.s, ← hq'.e]
          rw [hp.s, ← this]; exact h1
      · obtain ⟨i, hi, hM⟩ := hm k (by omega)
        refine ⟨K + K' + i, by omega, ?_⟩
        simp only [show ¬ (K + K' + i < K + K') by omega, if_false]
        rw [show K + K' + i - (K + K') = i by omega]; exact hM
  exact key m (Nat.le_refl _)
theorem LiveG.fair {m : Nat} {M : Nat → Nat → Prop} {v : Nat} (h : LiveG E m M v) : ∃ r, Fair E m M v r := by
  obtain ⟨u, h1, h2⟩ := h
  obtain ⟨p, L, hp⟩ := h1.pth
  obtain ⟨q, K, hq, hK, hm⟩ := h2.round
  refine ⟨fun i => if i < L then p i else q ((i - L) % K), ?_, ?_, ?_⟩
  · by_cases h0 : 0 < L
    · simp [h0, hp.s]
    · have : L = 0 := by omega
      subst this
      simp [Nat.zero_mod]; rw [hq.s, ← hp.e, hp.s]
  · intro i
    by_cases h1 : i + 1 < L
    · simp only [h1, show i < L by omega, if_true]; exact hp.st i (by omega)
    · by_cases h2 : i < L
      · have h3 : i + 1 = L := by omega
        simp only [h1, h2, if_true, if_false]
        rw [h3, Nat.sub_self, Nat.zero_mod, hq.s, ← hp.e, ← h3]; exact hp.st i h2
      · simp only [h1, h2, if_false]
        have h3 : (i - L) % K < K := Nat.mod_lt _ hK
        have h4 := hq.st _ h3
        obtain ⟨j, hj⟩ : ∃ j, (i - L) % K = j := ⟨_, rfl⟩
        have h5 : (i + 1 - L) % K = (j + 1) % K := by
          rw [show i + 1 - L = (i - L) + 1 by omega, ← hj, Nat.mod_add_mod]
        rw [hj] at h3 h4
        rw [h5, hj]
        by_cases h6 : j + 1 = K
        · rw [h6, Nat.mod_self, hq.s]
          rw [h6, hq.e] at h4; exact h4
        · rw [Nat.mod_eq_of_lt (by omega)]; exact h4
  · intro k hk N
    obtain ⟨i, hi, hM⟩ := hm k hk
    refine ⟨L + (i + K * N), by have := Nat.le_mul_of_pos_left N hK; omega, ?_⟩
    simp only [show ¬ (L + (i + K * N) < L) by omega, if_false]
    rw [show L + (i + K * N) - L = i + K * N by omega, Nat.add_mul_mod_self_left, Nat.mod_eq_of_lt hi]; exact hM
theorem Fair.rch {m : Nat} {M : Nat → Nat → Prop} {v : Nat} {r : Nat → Nat} (h : Fair E m M v r) {i j : Nat} (hij : i ≤ j) : Rch E (r i) (r j) :=
  Pth.rch (p := fun k => r (i + k)) (L := j - i) ⟨rfl, by show r (i + (j - i)) = _; rw [Nat.add_sub_cancel' hij], fun k _ => h.st (i + k)⟩
theorem inf_pigeon {r : Nat → Nat} {n : Nat} {Q : Nat → Prop} (hn : ∀ i, r i < n) (hq : ∀ N, ∃ i, N ≤ i ∧ Q (r i)) : ∃ v, Q v ∧ ∀ N, ∃ i, N ≤ i ∧ r i = v := by
  apply Classical.byContradiction
  intro hno
  have hb : ∀ k, ∃ N, ∀ i, N ≤ i → Q (r i) → ¬ r i < k := by
    intro k
    induction k with
    | zero => exact ⟨0, fun i _ _ => by omega⟩
    | succ k ih =>
      obtain ⟨N, hN⟩ := ih
      by_cases hk : Q k
      · have : ¬ ∀ N, ∃ i, N ≤ i ∧ r i = k := fun h => hno ⟨k, hk, h⟩
        obtain ⟨N', h'⟩ := Classical.not_forall.1 this
        refine ⟨max N N', fun i hi hQ hlt => ?_⟩
        by_cases e : r i = k
        · exact h' ⟨i, by omega, e⟩
        · exact hN i (by omega) hQ (by omega)
      · refine ⟨N, fun i hi hQ hlt => ?_⟩
        by_cases e : r i = k
        · rw [e] at hQ; exact hk hQ
        · exact hN i hi hQ (by omega)
  obtain ⟨N, hN⟩ := hb n
  obtain ⟨i, h1, h2⟩ := hq N
  exact hN i h1 h2 (hn i)
theorem Fair.live {m n : Nat} {M : Nat → Nat → Prop} {v : Nat} {r : Nat → Nat} (h : Fair E m M v r) (hn : ∀ i, r i < n) : LiveG E m M v := by
  obtain ⟨u, _, hu⟩ := inf_pigeon (Q := fun _ => True) hn (fun N => ⟨N, Nat.le_refl _, trivial⟩)
  have hmut : ∀ w, (∀ N, ∃ i, N ≤ i ∧ r i = w) → Rch E u w ∧ Rch E w u := fun w hw => by
    obtain ⟨i, _, hi⟩ := hu 0
    obtain ⟨j, hj, hj'⟩ := hw i
    obtain ⟨k, hk, hk'⟩ := hu j
    exact ⟨by rw [← hi, ← hj']; exact h.rch hj, by rw [← hk', ← hj']; exact h.rch hk⟩
  obtain ⟨i, _, hi⟩ := hu 0
  refine ⟨u, by rw [← h.s, ← hi]; exact h.rch (Nat.zero_le _), ?_, fun k hk => ?_⟩
  · obtain ⟨j, hj, hj'⟩ := hu (i + 1)
    refine ⟨r (i + 1), by rw [← hi]; exact h.st i, by rw [← hj']; exact h.rch hj⟩
  · obtain ⟨w, hw, hw'⟩ := inf_pigeon (Q := M k) hn (h.inf k hk)
    exact ⟨w, hw, hmut w hw'⟩
theorem live_iff {m n : Nat} {M : Nat → Nat → Prop} {v : Nat} (hE : ∀ u w, E u w → u < n ∧ w < n) : LiveG E m M v ↔ ∃ r, Fair E m M v r :=
  ⟨LiveG.fair, fun ⟨_, h⟩ => h.live (fun i => (hE _ _ (h.st i)).1)⟩
theorem LiveG.back {m : Nat} {M : Nat → Nat → Prop} {u v : Nat} (h : LiveG E m M v) (hr : Rch E u v) : LiveG E m M u := by
  obtain ⟨w, h1, h2⟩ := h
  exact ⟨w, hr.trans h1, h2⟩
theorem core_comp {n m : Nat} {M : Nat → Nat → Prop} {comp : Nat → Int} {cnt : Nat} (h : CompOk n E comp cnt) (hE : ∀ u v, E u v → u < n ∧ v < n) (hM : ∀ k v, M k v → v < n) {v : Nat} (hv : v < n) :
    Core E m M v ↔ (∃ a b, E a b ∧ comp a = comp v ∧ comp b = comp v) ∧ ∀ k, k < m → ∃ u, M k u ∧ comp u = comp v := by
  constructor
  · rintro ⟨⟨u, h1, h2⟩, h3⟩
    refine ⟨⟨v, u, h1, rfl, ((h.iff hE (hE _ _ h1).2 hv).2 ⟨h2, .one h1⟩)⟩, fun k hk => ?_⟩
    obtain ⟨u, h4, h5, h6⟩ := h3 k hk
    exact ⟨u, h4, (h.iff hE (hM _ _ h4) hv).2 ⟨h6, h5⟩⟩
  · rintro ⟨⟨a, b, h1, h2, h3⟩, h4⟩
    have ha := (h.iff hE (hE _ _ h1).1 hv).1 h2
    have hb := (h.iff hE (hE _ _ h1).2 hv).1 h3
    refine ⟨?_, fun k hk => ?_⟩
    · rcases ha.2 with _ | ⟨e, hr⟩
      · exact ⟨b, h1, hb.1⟩
      · exact ⟨_, e, hr.trans (.step h1 hb.1)⟩
    · obtain ⟨u, h5, h6⟩ := h4 k hk
      have hu := (h.iff hE (hM _ _ h5) hv).1 h6
      exact ⟨u, h5, hu.2, hu.1⟩
end
end Go.Lx

namespace Go.Lx
structure Ed where
  fr : Int
  to : Int
  pos : Nat
  neg : Nat
deriving DecidableEq
structure Bu where
  vars : Int
  states : Int
  start : List Int
  edges : List Ed
  sets : List (List Int)
deriving DecidableEq
structure La where
  pre : List Nat
  loop : List Nat
deriving DecidableEq
def rises (n : Int) : Int → List Int → Bool
  | _, [] => true
  | a, x :: l => decide (a < x) && decide (x < n) && rises n x l
def edgeOk (n : Int) (e : Ed) : Bool := decide (0 ≤ e.fr) && decide (e.fr < n) && decide (0 ≤ e.to) && decide (e.to < n)
def cubeOk (v : Nat) (e : Ed) : Bool := decide (e.pos < 2 ^ v) && decide (e.neg < 2 ^ v) && decide (e.pos &&& e.neg = 0)
def edgesE (n : Int) (v : Nat) : List Ed → Nat
  | [] => 0
  | e :: es => if edgeOk n e = true then (if cubeOk v e = true then edgesE n v es else 1) else 8
def checkB (b : Bu) : Nat :=
  if ¬ (0 ≤ b.vars ∧ b.vars ≤ 6) then 7
  else if b.states < 0 then 1
  else if 4096 < b.states then 10
  else if 8 < b.sets.length then 4
  else if rises b.states (-1) b.start = true ∧ b.sets.all (rises b.states (-1)) = true then edgesE b.states b.vars.toNat b.edges
  else 8
def checkL (v : Nat) (l : La) : Nat :=
  if l.loop.length = 0 then 3
  else if 64 < l.pre.length ∨ 64 < l.loop.length then 4
  else if (l.pre.all fun x => decide (x < 2 ^ v)) = true ∧ (l.loop.all fun x => decide (x < 2 ^ v)) = true then 0
  else 1
def checkLV (v : Int) (l : La) : Nat := if ¬ (0 ≤ v ∧ v ≤ 6) then 7 else checkL v.toNat l
theorem any_not {α : Type} {l : List α} {p : α → Prop} [DecidablePred p] (h : (l.all fun x => decide (p x)) = true) : (l.any fun x => decide (¬ p x)) = false := by
  rw [List.any_eq_false]; intro x hx; have := List.all_eq_true.1 h x hx; simpa using this
theorem all_not {α : Type} {l : List α} {p : α → Prop} [DecidablePred p] (h : (l.any fun x => decide (¬ p x)) = false) : (l.all fun x => decide (p x)) = true := by
  rw [List.any_eq_false] at h; rw [List.all_eq_true]; intro x hx; have := h x hx; simpa using this
theorem rises_no {n a : Int} {xs : List Int} {k : Nat} (hk : k < xs.length) (h : xs[k] ≤ a ∨ n ≤ xs[k]) : rises n a (xs.drop k) = false := by
  rw [List.drop_eq_getElem_cons hk]
  simp only [rises, Bool.and_eq_false_iff, decide_eq_false_iff_not]
  left; rcases h with h | h
  · left; omega
  · right; omega
theorem rises_yes {n a : Int} {xs : List Int} {k : Nat} (hk : k < xs.length) (h1 : a < xs[k]) (h2 : xs[k] < n) : rises n a (xs.drop k) = rises n xs[k] (xs.drop (k + 1)) := by
  rw [List.drop_eq_getElem_cons hk]
  simp [rises, h1, h2]
theorem rises_end {n a : Int} {xs : List Int} {k : Nat} (hk : ¬ k < xs.length) : rises n a (xs.drop k) = true := by
  rw [List.drop_eq_nil_of_le (by omega)]; rfl
theorem edges_8 {n : Int} {v : Nat} {es : List Ed} {k : Nat} (hk : k < es.length) (h : es[k].fr < 0 ∨ n ≤ es[k].fr ∨ es[k].to < 0 ∨ n ≤ es[k].to) : edgesE n v (es.drop k) = 8 := by
  rw [List.drop_eq_getElem_cons hk, edgesE, if_neg]
  simp only [edgeOk, Bool.and_eq_true, decide_eq_true_eq]; omega
theorem edges_1 {n : Int} {v : Nat} {es : List Ed} {k : Nat} (hk : k < es.length) (h : ¬ (es[k].fr < 0 ∨ n ≤ es[k].fr ∨ es[k].to < 0 ∨ n ≤ es[k].to)) (h2 : ¬ (es[k].pos < 2 ^ v ∧ es[k].neg < 2 ^ v ∧ es[k].pos &&& es[k].neg = 0)) : edgesE n v (es.drop k) = 1 := by
  rw [List.drop_eq_getElem_cons hk, edgesE, if_pos, if_neg]
  · simp only [cubeOk, Bool.and_eq_true, decide_eq_true_eq]; exact fun q => h2 ⟨q.1.1, q.1.2, q.2⟩
  · simp only [edgeOk, Bool.and_eq_true, decide_eq_true_eq]; omega
theorem edges_0 {n : Int} {v : Nat} {es : List Ed} {k : Nat} (hk : k < es.length) (h : ¬ (es[k].fr < 0 ∨ n ≤ es[k].fr ∨ es[k].to < 0 ∨ n ≤ es[k].to)) (h2 : es[k].pos < 2 ^ v ∧ es[k].neg < 2 ^ v ∧ es[k].pos &&& es[k].neg = 0) : edgesE n v (es.drop k) = edgesE n v (es.drop (k + 1)) := by
  rw [List.drop_eq_getElem_cons hk, edgesE, if_pos, if_pos]
  · simp only [cubeOk, Bool.and_eq_true, decide_eq_true_eq]; exact ⟨⟨h2.1, h2.2.1⟩, h2.2.2⟩
  · simp only [edgeOk, Bool.and_eq_true, decide_eq_true_eq]; omega
theorem or_lt {a b v : Nat} : a ||| b < 2 ^ v ↔ a < 2 ^ v ∧ b < 2 ^ v := by
  constructor
  · intro h; exact ⟨Nat.lt_of_le_of_lt Nat.left_le_or h, Nat.lt_of_le_of_lt Nat.right_le_or h⟩
  · rintro ⟨h1, h2⟩; exact Nat.or_lt_two_pow h1 h2
theorem checkB_7 {b : Bu} (h : ¬ (0 ≤ b.vars ∧ b.vars ≤ 6)) : checkB b = 7 := by unfold checkB; rw [if_pos h]
theorem checkB_1 {b : Bu} (h : 0 ≤ b.vars ∧ b.vars ≤ 6) (h1 : b.states < 0) : checkB b = 1 := by unfold checkB; rw [if_neg (fun q => q h), if_pos h1]
theorem checkB_10 {b : Bu} (h : 0 ≤ b.vars ∧ b.vars ≤ 6) (h1 : ¬ b.states < 0) (h2 : 4096 < b.states) : checkB b = 10 := by unfold checkB; rw [if_neg (fun q => q h), if_neg h1, if_pos h2]
theorem checkB_4 {b : Bu} (h : 0 ≤ b.vars ∧ b.vars ≤ 6) (h1 : ¬ b.states < 0) (h2 : ¬ 4096 < b.states) (h3 : 8 < b.sets.length) : checkB b = 4 := by unfold checkB; rw [if_neg (fun q => q h), if_neg h1, if_neg h2, if_pos h3]
theorem checkB_8 {b : Bu} (h : 0 ≤ b.vars ∧ b.vars ≤ 6) (h1 : ¬ b.states < 0) (h2 : ¬ 4096 < b.states) (h3 : ¬ 8 < b.sets.length) (h4 : ((b.start :: b.sets).all (rises b.states (-1))) = false) : checkB b = 8 := by
  unfold checkB; rw [if_neg (fun q => q h), if_neg h1, if_neg h2, if_neg h3, if_neg]
  rintro ⟨q1, q2⟩; rw [List.all_cons, q1, q2] at h4; cases h4
theorem checkB_e {b : Bu} (h : 0 ≤ b.vars ∧ b.vars ≤ 6) (h1 : ¬ b.states < 0) (h2 : ¬ 4096 < b.states) (h3 : ¬ 8 < b.sets.length) (h4 : ((b.start :: b.sets).all (rises b.states (-1))) = true) : checkB b = edgesE b.states b.vars.toNat (b.edges.drop 0) := by
  unfold checkB; rw [if_neg (fun q => q h), if_neg h1, if_neg h2, if_neg h3, if_pos]
  · rfl
  · rw [List.all_cons, Bool.and_eq_true] at h4; exact h4
theorem all_no {α : Type} {l : List α} {k : Nat} (h : k < l.length) {p : α → Bool} (h2 : p l[k] = false) : l.all p = false := by
  rw [List.all_eq_false]; exact ⟨_, List.getElem_mem h, by rw [h2]; decide⟩
theorem all_snoc {α : Type} {l : List α} {k : Nat} (h : k < l.length) {p : α → Bool} (h1 : (l.take k).all p = true) (h2 : p l[k] = true) : (l.take (k + 1)).all p = true := by
  rw [List.take_succ_eq_append_getElem h, List.all_append, h1]; simp [h2]
theorem all_done {α : Type} {l : List α} {k : Nat} (h : ¬ k < l.length) {p : α → Bool} (h1 : (l.take k).all p = true) : l.all p = true := by rwa [List.take_of_length_le (by omega)] at h1
theorem rises_mem {n : Int} : ∀ {l : List Int} {a : Int}, rises n a l = true → ∀ x ∈ l, a < x ∧ x < n
  | [], _, _, x, hx => by cases hx
  | y :: l, a, h, x, hx => by
    simp only [rises, Bool.and_eq_true, decide_eq_true_eq] at h
    rcases List.mem_cons.1 hx with rfl | hx
    · exact ⟨h.1.1, h.1.2⟩
    · have := rises_mem h.2 x hx; omega
theorem rises_pair {n : Int} : ∀ {l : List Int} {a : Int}, rises n a l = true → l.Pairwise (· < ·)
  | [], _, _ => List.Pairwise.nil
  | y :: l, a, h => by
    simp only [rises, Bool.and_eq_true, decide_eq_true_eq] at h
    exact List.pairwise_cons.2 ⟨fun x hx => (rises_mem h.2 x hx).1, rises_pair h.2⟩
structure ValidB (b : Bu) : Prop where
  v0 : 0 ≤ b.vars
  v6 : b.vars ≤ 6
  n0 : 0 ≤ b.states
  n4 : b.states ≤ 4096
  m8 : b.sets.length ≤ 8
  st : ∀ s ∈ b.start, 0 ≤ s ∧ s < b.states
  sst : b.start.Pairwise (· < ·)
  se : ∀ l ∈ b.sets, ∀ s ∈ l, 0 ≤ s ∧ s < b.states
  sse : ∀ l ∈ b.sets, l.Pairwise (· < ·)
  ed : ∀ e ∈ b.edges, (0 ≤ e.fr ∧ e.fr < b.states) ∧ (0 ≤ e.to ∧ e.to < b.states)
  cu : ∀ e ∈ b.edges, e.pos < 2 ^ b.vars.toNat ∧ e.neg < 2 ^ b.vars.toNat ∧ e.pos &&& e.neg = 0
theorem edgesE_zero {n : Int} {v : Nat} : ∀ {es : List Ed}, edgesE n v es = 0 ↔ (∀ e ∈ es, (0 ≤ e.fr ∧ e.fr < n) ∧ (0 ≤ e.to ∧ e.to < n)) ∧ ∀ e ∈ es, e.pos < 2 ^ v ∧ e.neg < 2 ^ v ∧ e.pos &&& e.neg = 0
  | [] => by simp [edgesE]
  | e :: es => by
    have ih := edgesE_zero (n := n) (v := v) (es := es)
    simp only [edgesE, List.mem_cons, forall_eq_or_imp]
    by_cases h : edgeOk n e = true
    · by_cases h2 : cubeOk v e = true
      · rw [if_pos h, if_pos h2, ih]
        simp only [edgeOk, cubeOk, Bool.and_eq_true, decide_eq_true_eq] at h h2
        exact ⟨fun q => ⟨⟨⟨⟨h.1.1.1, h.1.1.2⟩, h.1.2, h.2⟩, q.1⟩, ⟨h2.1.1, h2.1.2, h2.2⟩, q.2⟩, fun q => ⟨q.1.2, q.2.2⟩⟩
      · rw [if_pos h, if_neg h2]
        refine ⟨fun q => by omega, fun q => (h2 ?_).elim⟩
        simp only [cubeOk, Bool.and_eq_true, decide_eq_true_eq]
        exact ⟨⟨q.2.1.1, q.2.1.2.1⟩, q.2.1.2.2⟩
    · rw [if_neg h]
      refine ⟨fun q => by omega, fun q => (h ?_).elim⟩
      simp only [edgeOk, Bool.and_eq_true, decide_eq_true_eq]
      exact ⟨⟨⟨q.1.1.1.1, q.1.1.1.2⟩, q.1.1.2.1⟩, q.1.1.2.2⟩
theorem rises_of {n : Int} : ∀ {l : List Int} {a : Int}, (∀ x ∈ l, a < x ∧ x < n) → l.Pairwise (· < ·) → rises n a l = true
  | [], _, _, _ => rfl
  | y :: l, a, h, hp => by
    rw [List.pairwise_cons] at hp
    simp only [rises, Bool.and_eq_true, decide_eq_true_eq]
    exact ⟨h y (by simp), rises_of (fun x hx => ⟨hp.1 x hx, (h x (by simp [hx])).2⟩) hp.2⟩
theorem checkB_zero {b : Bu} : checkB b = 0 ↔ ValidB b := by
  unfold checkB
  constructor
  · intro h
    split at h; · cases h
    split at h; · cases h
    split at h; · cases h
    split at h; · cases h
    split at h
    · rename_i h1 h2 h3 h4 h5
      simp only [Classical.not_not] at h1
      have h6 := edgesE_zero.1 h
      have h7 : ∀ l ∈ b.sets, rises b.states (-1) l = true := by simpa using h5.2
      exact { v0 := h1.1, v6 := h1.2, n0 := by omega, n4 := by omega, m8 := by omega, st := fun s hs => by have := rises_mem h5.1 s hs; omega, sst := rises_pair h5.1, se := fun l hl s hs => by have := rises_mem (h7 l hl) s hs; omega, sse := fun l hl => rises_pair (h7 l hl), ed := h6.1, cu := h6.2 }
    · cases h
  · intro h
    rw [if_neg (by have := h.v0; have := h.v6; simp; omega), if_neg (by have := h.n0; omega), if_neg (by have := h.n4; omega), if_neg (by have := h.m8; omega), if_pos, edgesE_zero.2 ⟨h.ed, h.cu⟩]
    refine ⟨rises_of (fun x hx => by have := h.st x hx; omega) h.sst, ?_⟩
    simp only [List.all_eq_true]
    exact fun l hl => rises_of (fun x hx => by have := h.se l hl x hx; omega) (h.sse l hl)
def La.n (l : La) : Nat := l.pre.length + l.loop.length
def La.ix (l : La) (i : Nat) : Nat := if i < l.pre.length then i else l.pre.length + (i - l.pre.length) % max l.loop.length 1
def La.at (l : La) (i : Nat) : Nat := if i < l.pre.length then l.pre.getD i 0 else l.loop.getD ((i - l.pre.length) % max l.loop.length 1) 0
theorem La.ix_lt {l : La} (h : 0 < l.loop.length) (i : Nat) : l.ix i < l.n := by
  unfold La.ix La.n
  split
  · omega
  · have := Nat.mod_lt (i - l.pre.length) (show 0 < max l.loop.length 1 by omega); omega
theorem La.ix_id {l : La} (h : 0 < l.loop.length) {i : Nat} (hi : i < l.n) : l.ix i = i := by
  unfold La.ix
  split
  · rfl
  · unfold La.n at hi
    rw [Nat.mod_eq_of_lt (by omega)]; omega
theorem La.at_ix {l : La} (i : Nat) : l.at (l.ix i) = l.at i := by
  unfold La.at La.ix
  by_cases h : i < l.pre.length
  · simp [h]
  · simp only [h, if_false]
    rw [if_neg (by omega), Nat.add_sub_cancel_left, Nat.mod_mod]
theorem La.ix_succ {l : La} (i : Nat) : l.ix (l.ix i + 1) = l.ix (i + 1) := by
  unfold La.ix
  by_cases h : i < l.pre.length
  · simp [h]
  · simp only [h, if_false]
    rw [if_neg (show ¬ i + 1 < l.pre.length by omega), if_neg (by omega)]
    rw [show l.pre.length + (i - l.pre.length) % max l.loop.length 1 + 1 - l.pre.length = (i - l.pre.length) % max l.loop.length 1 + 1 by omega, show i + 1 - l.pre.length = (i - l.pre.length) + 1 by omega, Nat.mod_add_mod]
def mtch (e : Ed) (x : Nat) : Prop := x &&& e.pos = e.pos ∧ x &&& e.neg = 0
instance (e : Ed) (x : Nat) : Decidable (mtch e x) := by unfold mtch; exact inferInstance
structure Run (b : Bu) (w : Nat → Nat) (s : Nat) (r : Nat → Nat) : Prop where
  s : r 0 = s
  st : ∀ i, ∃ e ∈ b.edges, e.fr = r i ∧ e.to = r (i + 1) ∧ mtch e (w i)
  inf : ∀ S ∈ b.sets, ∀ N, ∃ i, N ≤ i ∧ (r i : Int) ∈ S
def Acc (b : Bu) (w : Nat → Nat) : Prop := ∃ s : Nat, (s : Int) ∈ b.start ∧ ∃ r, Run b w s r
def PE (b : Bu) (l : La) (u v : Nat) : Prop := ∃ e ∈ b.edges, ∃ i, i < l.n ∧ mtch e (l.at i) ∧ u = e.fr.toNat * l.n + i ∧ v = e.to.toNat * l.n + l.ix (i + 1)
def PM (b : Bu) (l : La) (k v : Nat) : Prop := v < b.states.toNat * l.n ∧ ∃ S, b.sets[k]? = some S ∧ ((v / l.n : Nat) : Int) ∈ S
theorem PE.lt {b : Bu} {l : La} (h : ValidB b) (hl : 0 < l.loop.length) {u v : Nat} (he : PE b l u v) : u < b.states.toNat * l.n ∧ v < b.states.toNat * l.n := by
  obtain ⟨e, h1, i, h2, _, rfl, rfl⟩ := he
  have h3 := h.ed e h1
  have h4 := La.ix_lt hl (i + 1)
  have hn : 0 < l.n := by omega
  have key : ∀ a j : Nat, a + 1 ≤ b.states.toNat → j < l.n → a * l.n + j < b.states.toNat * l.n := fun a j ha hj => by
    have := Nat.mul_le_mul_right l.n ha
    rw [Nat.add_mul, Nat.one_mul] at this; omega
  exact ⟨key _ _ (by omega) h2, key _ _ (by omega) h4⟩
theorem live_run {b : Bu} {l : La} (h : ValidB b) (hl : 0 < l.loop.length) {s : Nat} : LiveG (PE b l) b.sets.length (PM b l) (s * l.n) ↔ ∃ r, Run b l.at s r := by
  have hn : 0 < l.n := by have : l.n = l.pre.length + l.loop.length := rfl; omega
  rw [live_iff (fun u w he => he.lt h hl)]
  constructor
  · rintro ⟨q, h1, h2, h3⟩
    have hpos : ∀ i, q i % l.n = l.ix i := by
      intro i
      induction i with
      | zero =>
        rw [h1, Nat.mul_mod_left]
        exact (La.ix_id hl hn).symm
      | succ i ih =>
        obtain ⟨e, _, j, hj, _, e1, e2⟩ := h2 i
        rw [e2, Nat.mul_add_mod_self_right, Nat.mod_eq_of_lt (La.ix_lt hl _)]
        rw [e1, Nat.mul_add_mod_self_right, Nat.mod_eq_of_lt hj] at ih
        rw [ih, La.ix_succ]
    refine ⟨fun i => q i / l.n, ?_, fun i => ?_, fun S hS N => ?_⟩
    · show q 0 / l.n = s
      rw [h1, Nat.mul_div_cancel _ hn]
    · obtain ⟨e, he, j, hj, hm, e1, e2⟩ := h2 i
      have h4 := h.ed e he
      have hp := hpos i
      rw [e1, Nat.mul_add_mod_self_right, Nat.mod_eq_of_lt hj] at hp
      refine ⟨e, he, ?_, ?_, ?_⟩
      · show e.fr = ((q i / l.n : Nat) : Int)
        rw [e1, Nat.mul_comm, Nat.mul_add_div hn, Nat.div_eq_of_lt hj, Nat.add_zero]; omega
      · show e.to = ((q (i + 1) / l.n : Nat) : Int)
        rw [e2, Nat.mul_comm, Nat.mul_add_div hn, Nat.div_eq_of_lt (La.ix_lt hl _), Nat.add_zero]; omega
      · rw [hp, La.at_ix] at hm; exact hm
    · obtain ⟨k, hk, hk'⟩ := List.mem_iff_getElem.1 hS
      obtain ⟨i, hi, _, S', hS', hm⟩ := h3 k hk N
      rw [List.getElem?_eq_getElem hk, hk'] at hS'
      cases hS'
      exact ⟨i, hi, hm⟩
  · rintro ⟨r, h1, h2, h3⟩
    have hr : ∀ i, r i < b.states.toNat := fun i => by
      obtain ⟨e, he, e1, _, _⟩ := h2 i
      have := (h.ed e he).1; omega
    have hdiv : ∀ i, (r i * l.n + l.ix i) / l.n = r i := fun i => by
      rw [Nat.mul_comm, Nat.mul_add_div hn, Nat.div_eq_of_lt (La.ix_lt hl _), Nat.add_zero]
    refine ⟨fun i => r i * l.n + l.ix i, ?_, fun i => ?_, fun k hk N => ?_⟩
    · show r 0 * l.n + l.ix 0 = _
      rw [h1, La.ix_id hl hn, Nat.add_zero]
    · obtain ⟨e, he, e1, e2, hm⟩ := h2 i
      refine ⟨e, he, l.ix i, La.ix_lt hl i, by rw [La.at_ix]; exact hm, ?_, ?_⟩
      · show r i * l.n + l.ix i = _
        rw [e1]; rfl
      · show r (i + 1) * l.n + l.ix (i + 1) = _
        rw [e2, La.ix_succ]; rfl
    · obtain ⟨i, hi, hm⟩ := h3 b.sets[k] (List.getElem_mem hk) N
      refine ⟨i, hi, ?_, b.sets[k], List.getElem?_eq_getElem hk, ?_⟩
      · show r i * l.n + l.ix i < _
        have h4 := Nat.mul_le_mul_right l.n (hr i)
        have := La.ix_lt hl i
        rw [Nat.succ_mul] at h4; omega
      · show (((r i * l.n + l.ix i) / l.n : Nat) : Int) ∈ _
        rw [hdiv]; exact hm
def accL (b : Bu) (l : La) : Prop := ∃ s ∈ b.start, LiveG (PE b l) b.sets.length (PM b l) (s.toNat * l.n)
theorem accL_iff {b : Bu} {l : La} (h : ValidB b) (hl : 0 < l.loop.length) : accL b l ↔ Acc b l.at := by
  constructor
  · rintro ⟨s, h1, h2⟩
    have := h.st s h1
    exact ⟨s.toNat, by rw [Int.toNat_of_nonneg this.1]; exact h1, (live_run h hl).1 h2⟩
  · rintro ⟨s, h1, h2⟩
    exact ⟨s, h1, (live_run h hl).2 h2⟩
theorem accL_word {b : Bu} {l l' : La} (h : ValidB b) (hl : 0 < l.loop.length) (hl' : 0 < l'.loop.length) (he : ∀ i, l.at i = l'.at i) : accL b l ↔ accL b l' := by
  rw [accL_iff h hl, accL_iff h hl', show l.at = l'.at from funext he]
end Go.Lx

namespace Go.Lx
open Go.RowKit
theorem Sub.appL {A B : List Item} (N : List Item) (h : Sub A B) : Sub A (N ++ B) := by
  obtain ⟨l, h1, h2⟩ := h
  exact ⟨l, h1, h2.trans (List.sublist_append_right _ _)⟩
def edC (e : Ed) : List Value := [.int .i64 e.fr, .int .i64 e.to, .int .u8 (e.pos : Int), .int .u8 (e.neg : Int)]
def edsC (es : List Ed) : List Value := es.flatMap edC
theorem eds_len (es : List Ed) : (edsC es).length = es.length * 4 := by
  induction es with
  | nil => rfl
  | cons e es ih => simp only [edsC, List.flatMap_cons, List.length_append] at ih ⊢; simp [edC, ih]; omega
theorem eds_get' : ∀ {es : List Ed} {i : Nat} (h : i < es.length) (j : Nat), j < 4 → (edsC es)[i * 4 + j]? = (edC es[i])[j]?
  | e :: es, 0, _, j, hj => by
    simp only [edsC, List.flatMap_cons, List.getElem_cons_zero]
    rw [List.getElem?_append_left (by simp [edC]; omega)]; simp
  | e :: es, i + 1, h, j, hj => by
    have ih := eds_get' (es := es) (i := i) (by simpa using h) j hj
    simp only [edsC, List.flatMap_cons, List.getElem_cons_succ] at ih ⊢
    rw [List.getElem?_append_right (by simp [edC]; omega)]
    simp only [edC, List.length_cons, List.length_nil] at ih ⊢
    rw [← ih]; congr 1; omega
theorem eds_get {es : List Ed} {i : Nat} (h : i < es.length) : ∀ j (hj : j < [Value.int .i64 es[i].fr, .int .i64 es[i].to, .int .u8 ((es[i].pos : Nat) : Int), .int .u8 ((es[i].neg : Nat) : Int)].length), (edsC es)[i * 4 + j]? = some [Value.int .i64 es[i].fr, .int .i64 es[i].to, .int .u8 ((es[i].pos : Nat) : Int), .int .u8 ((es[i].neg : Nat) : Int)][j] := fun j hj => by
  rw [eds_get' h j (by simpa using hj)]
  exact List.getElem?_eq_getElem (l := edC es[i]) hj
theorem eds_append (a b : List Ed) : edsC (a ++ b) = edsC a ++ edsC b := by simp [edsC]
theorem eds_one (es : List Ed) : ((edsC es).all oneB) = true := by
  simp only [List.all_eq_true, edsC, List.mem_flatMap]
  rintro v ⟨e, _, hv⟩
  simp [edC] at hv
  rcases hv with rfl | rfl | rfl | rfl <;> rfl
structure BuAt (w : World) (b : Bu) (sb eb tb : Option Addr) (vs : List Value) : Prop where
  st : Sl w sb (ints b.start)
  ed : Sl w eb (edsC b.edges)
  out : Sl w tb vs
  rows : RowsR w vs b.sets
@[simp] abbrev buCells (b : Bu) (sb : Option Addr) (sc : Nat) (eb : Option Addr) (ec : Nat) (tb : Option Addr) (tc : Nat) : List Value := [.int .i64 b.vars, .int .i64 b.states, .slice sb b.start.length sc, .slice eb b.edges.length ec, .slice tb b.sets.length tc]
theorem BuAt.keep {w w' : World} {b : Bu} {sb eb tb : Option Addr} {vs : List Value} (h : BuAt w b sb eb tb vs) (hb : ∀ k, k < w.heap.size → w'.heap[k]? = w.heap[k]?) : BuAt w' b sb eb tb vs :=
  ⟨h.st.keep hb, h.ed.keep hb, h.out.keep hb, h.rows.keep hb⟩
theorem Inv.bu {base : World} {O : List Item} {w : World} (hI : Inv base O w) {b : Bu} {sb eb tb : Option Addr} {vs : List Value} (h : BuAt base b sb eb tb vs) : BuAt w b sb eb tb vs := h.keep hI.below.block
structure BuB (b : Bu) : Prop where
  st : b.start.length ≤ 1000000
  ed : b.edges.length ≤ 1000000
  se : b.sets.length ≤ 1000000
  sr : ∀ r ∈ b.sets, r.length ≤ 1000000
  pn : ∀ e ∈ b.edges, e.pos < 256 ∧ e.neg < 256
theorem La.ix_pre {l : La} {i : Nat} (h : i < l.pre.length) : l.ix i = i := by unfold La.ix; rw [if_pos h]
theorem La.ix_loop {l : La} {i : Nat} (h0 : 0 < l.loop.length) (h : l.pre.length ≤ i) : l.ix i = l.pre.length + (i - l.pre.length) % l.loop.length := by
  unfold La.ix; rw [if_neg (by omega), show max l.loop.length 1 = l.loop.length by omega]
theorem La.at_pre {l : La} {i : Nat} (h : i < l.pre.length) : l.at i = l.pre[i] := by unfold La.at; rw [if_pos h]; simp [h]
theorem La.at_loop {l : La} {i : Nat} (h0 : 0 < l.loop.length) (h : l.pre.length ≤ i) : l.at i = l.loop[(i - l.pre.length) % l.loop.length]'(Nat.mod_lt _ h0) := by
  unfold La.at; rw [if_neg (by omega), show max l.loop.length 1 = l.loop.length by omega]
  have := Nat.mod_lt (i - l.pre.length) h0
  simp [this]
theorem La.at_lt {l : La} {n : Nat} (h0 : 0 < l.loop.length) (hp : ∀ x ∈ l.pre, x < n) (hl : ∀ x ∈ l.loop, x < n) (i : Nat) : l.at i < n := by
  by_cases h : i < l.pre.length
  · rw [La.at_pre h]; exact hp _ (List.getElem_mem h)
  · rw [La.at_loop h0 (by omega)]; exact hl _ (List.getElem_mem _)
structure LaAt (w : World) (l : La) (pb lb : Option Addr) (pc lc : Nat) : Prop where
  pre : Sl w pb (byts l.pre)
  loop : Sl w lb (byts l.loop)
  pc : l.pre.length ≤ pc
  lc : l.loop.length ≤ lc
@[simp] abbrev laCells (l : La) (pb : Option Addr) (pc : Nat) (lb : Option Addr) (lc : Nat) : List Value := [.slice pb l.pre.length pc, .slice lb l.loop.length lc]
theorem LaAt.keep {w w' : World} {l : La} {pb lb : Option Addr} {pc lc : Nat} (h : LaAt w l pb lb pc lc) (hb : ∀ k, k < w.heap.size → w'.heap[k]? = w.heap[k]?) : LaAt w' l pb lb pc lc := ⟨h.pre.keep hb, h.loop.keep hb, h.pc, h.lc⟩
theorem Inv.la {base : World} {O : List Item} {w : World} (hI : Inv base O w) {l : La} {pb lb : Option Addr} {pc lc : Nat} (h : LaAt base l pb lb pc lc) : LaAt w l pb lb pc lc := h.keep hI.below.block
structure LaB (l : La) : Prop where
  pre : l.pre.length ≤ 1000000
  loop : l.loop.length ≤ 1000000
  p8 : ∀ x ∈ l.pre, x < 256
  l8 : ∀ x ∈ l.loop, x < 256
abbrev fn (l : List Nat) : Nat → Nat := fun v => l.getD v 0
theorem fn_set {l : List Nat} {v a : Nat} (h : v < l.length) (x : Nat) : fn (l.set v a) x = if x = v then a else fn l x := by
  show (l.set v a).getD x 0 = _
  rw [List.getD_eq_getElem?_getD, List.getElem?_set]
  by_cases e : v = x
  · subst e; simp [h]
  · rw [if_neg e, if_neg (fun h => e h.symm)]; simp
theorem fn_get {l : List Nat} {v : Nat} (h : v < l.length) : fn l v = l[v] := by show l.getD v 0 = _; simp [h]
abbrev fz (l : List Int) : Nat → Int := fun v => l.getD v (-1)
theorem fz_set {l : List Int} {v : Nat} {a : Int} (h : v < l.length) (x : Nat) : fz (l.set v a) x = if x = v then a else fz l x := by
  show (l.set v a).getD x (-1) = _
  rw [List.getD_eq_getElem?_getD, List.getElem?_set]
  by_cases e : v = x
  · subst e; simp [h]
  · rw [if_neg e, if_neg (fun h => e h.symm)]; simp
theorem fz_get {l : List Int} {v : Nat} (h : v < l.length) : fz l v = l[v] := by show l.getD v (-1) = _; simp [h]
abbrev fb (l : List Bool) : Nat → Bool := fun v => l.getD v false
theorem fb_set {l : List Bool} {v : Nat} {a : Bool} (h : v < l.length) (x : Nat) : fb (l.set v a) x = if x = v then a else fb l x := by
  show (l.set v a).getD x false = _
  rw [List.getD_eq_getElem?_getD, List.getElem?_set]
  by_cases e : v = x
  · subst e; simp [h]
  · rw [if_neg e, if_neg (fun h => e h.symm)]; simp
theorem fb_get {l : List Bool} {v : Nat} (h : v < l.length) : fb l v = l[v] := by show l.getD v false = _; simp [h]
abbrev uns (l : List Nat) : List Value := l.map fun x : Nat => Value.int .u64 (x : Int)
theorem uns_get {l : List Nat} {i : Nat} (h : i < l.length := by first | assumption | omega | (simp; omega) | simp_all) : (uns l)[i]? = some (.int .u64 ((l[i] : Nat) : Int)) := by simp [h]
theorem uns_one (l : List Nat) : ((uns l).all oneB) = true := by simp [oneB]
abbrev nilRec : Rec := ⟨none, 0, []⟩
theorem Inv.nilRows {base : World} {O : List Item} {w : World} (h : Inv base O w) (E : TypeId) : ∀ n : Nat, Inv base (itms E (List.replicate n nilRec) ++ O) w
  | 0 => h
  | n + 1 => by
    have := (Inv.nilRows h E n).nilRow E 1
    exact this
theorem T.nilRows {P : Program} {r : Option Nat} {base : World} {n : Nat} {c : Code} {Q : Post} {ρ : Env} {O : List Item} (E : TypeId) (k : Nat) (h : T P r base n c Q ρ (O ++ itms E (List.replicate k nilRec))) : T P r base n c Q ρ O :=
  fun a w M D hM ha hi => h a w M D hM ha ((hi.nilRows E k).perm (by
    have h1 : (O ++ itms E (List.replicate k nilRec)).Perm (itms E (List.replicate k nilRec) ++ O) := List.perm_append_comm
    have h2 := h1.append_right (mI D ++ M)
    rw [List.append_assoc (itms E (List.replicate k nilRec)) O] at h2
    exact h2))
theorem itms_at {E : TypeId} {qs : List Rec} {c : Nat} (h : c < qs.length) {X : List Item} : rowI qs[c].b qs[c].c E 1 (ints qs[c].xs) ∈ X ++ itms E qs := List.mem_append_right _ (List.mem_map.2 ⟨qs[c], List.getElem_mem h, rfl⟩)
theorem vals_at {qs : List Rec} {c : Nat} (h : c < qs.length) : (vals qs)[c]? = some (.slice qs[c].b qs[c].xs.length qs[c].c) := by simp [h, Rec.val]
theorem itms_out {E : TypeId} : ∀ {qs : List Rec} {c : Nat} (h : c < qs.length), (itms E qs).Perm (qs[c].itm E :: itms E (qs.eraseIdx c))
  | q :: qs, 0, _ => by simp
  | q :: qs, c + 1, h => by
    have ih := itms_out (E := E) (qs := qs) (c := c) (by simpa using h)
    simp only [itms, List.map_cons, List.eraseIdx_cons_succ, List.getElem_cons_succ] at ih ⊢
    exact (ih.cons _).trans (List.Perm.swap _ _ _)
theorem sub_out {E : TypeId} {qs : List Rec} {c : Nat} (h : c < qs.length) (X : List Item) : Sub (qs[c].itm E :: (X ++ itms E (qs.eraseIdx c))) (X ++ itms E qs) := by
  refine ⟨X ++ itms E qs, ?_, List.Sublist.refl _⟩
  exact ((List.perm_middle (a := qs[c].itm E) (l₁ := X)).symm).trans ((itms_out h).symm.append_left X)
theorem sub_in {E : TypeId} {qs : List Rec} {c : Nat} (h : c < qs.length) (X : List Item) (q : Rec) {cs : List Value} (hc : cs = ints q.xs) : Sub (X ++ itms E (qs.set c q)) (rowI q.b q.c E 1 cs :: (X ++ itms E (qs.eraseIdx c))) := by
  subst hc
  have h1 := itms_out (E := E) (qs := qs.set c q) (c := c) (by simpa using h)
  rw [List.getElem_set_self, List.eraseIdx_set_eq] at h1
  refine ⟨_, ?_, List.Sublist.refl _⟩
  exact (h1.append_left X).trans (List.perm_middle (a := q.itm E) (l₁ := X))
theorem vals_set {qs : List Rec} {c : Nat} {q : Rec} : putL (vals qs) c [.slice q.b q.xs.length q.c] = vals (qs.set c q) := by
  simp [putL, Rec.val]
theorem nums_set {qs : List Rec} {c : Nat} {q : Rec} : nums (qs.set c q) = (nums qs).set c q.xs := by simp [nums]
theorem RowsR.cons {w : World} {vs : List Value} {rs : List (List Int)} (h : RowsR w vs rs) {b : Option Addr} {c : Nat} {xs : List Int} (hs : Sl w b (ints xs)) : RowsR w (.slice b xs.length c :: vs) (xs :: rs) :=
  ⟨by simp [h.1], fun i r hr => by
    cases i with
    | zero => simp at hr; subst hr; exact ⟨b, c, rfl, hs⟩
    | succ i => exact h.2 i r (by simpa using hr)⟩
theorem RowsR.one {w : World} {vs : List Value} {rs : List (List Int)} (h : RowsR w vs rs) : (vs.all oneB) = true := by
  rw [List.all_eq_true]
  intro v hv
  obtain ⟨i, hi, rfl⟩ := List.mem_iff_getElem.1 hv
  obtain ⟨b, c, g, _⟩ := h.get (i := i) (by rw [← h.1]; exact hi)
  rw [List.getElem?_eq_getElem hi] at g
  rw [Option.some.inj g]; rfl
structure BuRef where
  b : Bu
  sb : Option Addr
  sc : Nat
  eb : Option Addr
  ec : Nat
  tb : Option Addr
  tc : Nat
  vs : List Value
def BuRef.cells (q : BuRef) : List Value := buCells q.b q.sb q.sc q.eb q.ec q.tb q.tc
def busC (qs : List BuRef) : List Value := qs.flatMap BuRef.cells
structure LaRef where
  l : La
  pb : Option Addr
  pc : Nat
  lb : Option Addr
  lc : Nat
def LaRef.cells (q : LaRef) : List Value := laCells q.l q.pb q.pc q.lb q.lc
def lasC (qs : List LaRef) : List Value := qs.flatMap LaRef.cells
theorem flat_get {α : Type} {F : α → List Value} {k : Nat} (hF : ∀ a, (F a).length = k) : ∀ {qs : List α} {i : Nat} (h : i < qs.length) (j : Nat), j < k → (qs.flatMap F)[i * k + j]? = (F qs[i])[j]?
  | e :: es, 0, _, j, hj => by
    simp only [List.flatMap_cons, List.getElem_cons_zero]
    rw [List.getElem?_append_left (by rw [hF]; omega)]; simp
  | e :: es, i + 1, h, j, hj => by
    have ih := flat_get hF (qs := es) (i := i) (by simpa using h) j hj
    simp only [List.flatMap_cons, List.getElem_cons_succ] at ih ⊢
    have : (i + 1) * k + j = i * k + j + k := by rw [Nat.add_mul, Nat.one_mul]; omega
    rw [List.getElem?_append_right (by rw [hF]; omega), hF, ← ih]; congr 1; omega
theorem flat_len {α : Type} {F : α → List Value} {k : Nat} (hF : ∀ a, (F a).length = k) : ∀ (qs : List α), (qs.flatMap F).length = qs.length * k
  | [] => by simp
  | q :: qs => by rw [List.flatMap_cons, List.length_append, hF, flat_len hF qs, List.length_cons, Nat.add_mul]; omega
theorem bus_get {qs : List BuRef} {i : Nat} (h : i < qs.length) (j : Nat) (hj : j < 5) : (busC qs)[i * 5 + j]? = (qs[i].cells)[j]? := flat_get (F := BuRef.cells) (fun _ => rfl) h j hj
theorem bus_len (qs : List BuRef) : (busC qs).length = qs.length * 5 := flat_len (F := BuRef.cells) (fun _ => rfl) qs
theorem las_get {qs : List LaRef} {i : Nat} (h : i < qs.length) (j : Nat) (hj : j < 2) : (lasC qs)[i * 2 + j]? = (qs[i].cells)[j]? := flat_get (F := LaRef.cells) (fun _ => rfl) h j hj
theorem las_len (qs : List LaRef) : (lasC qs).length = qs.length * 2 := flat_len (F := LaRef.cells) (fun _ => rfl) qs
def longN (b : Bu) : Bool := decide (40 < b.start.length ∨ 60 < b.edges.length ∨ 12 < b.sets.length ∨ (20 < b.states ∧ b.states ≤ 4096))
def longB (b : Bu) : Bool := longN b || b.sets.any (fun r => decide (40 < r.length))
def longL (l : La) : Bool := decide (70 < l.pre.length ∨ 70 < l.loop.length)
theorem any_snoc {α : Type} {l : List α} {k : Nat} (h : k < l.length) {p : α → Bool} (h1 : (l.take k).any p = false) (h2 : p l[k] = false) : (l.take (k + 1)).any p = false := by
  rw [List.take_succ_eq_append_getElem h, List.any_append, h1]; simp [h2]
theorem any_hit {α : Type} {l : List α} {k : Nat} (h : k < l.length) {p : α → Bool} (h2 : p l[k] = true) : l.any p = true := List.any_eq_true.2 ⟨_, List.getElem_mem h, h2⟩
theorem any_done {α : Type} {l : List α} {k : Nat} (h : ¬ k < l.length) {p : α → Bool} (h1 : (l.take k).any p = false) : l.any p = false := by rwa [List.take_of_length_le (by omega)] at h1
end Go.Lx

namespace Go.Proofs.Ytnamoapbienooaa
open Go.Lx Go.RowKit
set_option linter.unusedVariables false
set_option linter.unusedSimpArgs false
theorem edgeT : EdgeX Try.prog 54 := ⟨_, _, _, _, { under := Try.underlying54, u1 := Try.underlying3, u2 := Try.underlying3, u3 := Try.underlying5, u4 := Try.underlying5, o1 := rfl, o2 := rfl, o3 := rfl, o4 := rfl, n1 := by decide, n2 := by decide, n3 := by decide, n4 := by decide, held := by kernel_rfl, guard := by kernel_rfl }⟩
set_option maxHeartbeats 1000000 in
set_option maxRecDepth 20000 in
theorem equalInts (w : World) (b1 b2 : Option Addr) (c1 c2 : Nat) (xs ys : List Int) (h1 : Sl w b1 (ints xs)) (h2 : Sl w b2 (ints ys)) (hb : xs.length < 9223372036854775807) :
    PureT Try.prog 47 [(.slice b1 xs.length c1), (.slice b2 ys.length c2)] w fun v N => v = .bool (decide (xs = ys)) ∧ N = [] := by
  refine CallT.enter Try.func47 rfl Try.ntmps47 rfl ?_
  refine T.seq (T.region ?_)
  refine TO.quiet (q_assign rfl) ?_
  refine TO.nil (T.seq (T.seq (T.region ?_)))
  refine TO.quiet (q_move rfl) (TO.quiet (q_len Try.underlying22 rfl) (TO.quiet (q_move rfl) (TO.quiet (q_len Try.underlying22 rfl) ?_)))
  refine TO.quiet (q_neq rfl rfl) ?_
  refine TO.nil ?_
  refine T.condP rfl (fun hc => ?_) (fun hc => ?_)
  · have hlt10 : xs.length ≠ ys.length := by omega
    have hlen : xs.length ≠ ys.length := by omega
    refine T.seq (T.region ?_)
    refine TO.quiet (q_assign rfl) ?_
    refine TO.nil (T.ret ?_)
    refine Res.one (.bool false) Try.results47 rfl ?_
    exact ⟨congrArg Value.bool (decide_eq_false (fun e => hlen (by rw [e]))).symm, rfl⟩
  have hge10 : ¬ xs.length ≠ ys.length := by omega
  have hlen : xs.length = ys.length := by omega
  refine T.skip (T.seq (T.seq (T.region ?_)))
  refine TO.quiet (q_assign rfl) ?_
  refine TO.nil (T.block ?_)
  refine T.loop (fun (k : Nat) ρ O => O = [] ∧ k ≤ xs.length ∧ xs.take k = ys.take k ∧ Heads [(0, (.slice b1 xs.length c1)), (1, (.slice b2 ys.length c2)), (5, .int .i64 (k : Int))] ρ) (fun k => xs.length - k) 0 ?_ ?_
  · exact ⟨rfl, Nat.zero_le _, rfl, ⟨rfl, rfl, rfl, trivial⟩⟩
  rintro k ρ O ⟨rfl, hk, he, hH⟩
  obtain ⟨ρ0, rfl⟩ := hH.elim
  clear hH
  refine T.seq (T.seq (T.region ?_))
  refine TO.quiet (q_move rfl) (TO.quiet (q_move rfl) (TO.quiet (q_len Try.underlying22 rfl) (TO.quiet (q_lss rfl rfl) ?_)))
  refine TO.nil ?_
  refine T.condP rfl (fun hc => ?_) (fun hc => ?_)
  · have hlt14 : k < xs.length := by omega
    have hlt : k < xs.length := by omega
    have hlt2 : k < ys.length := by omega
    obtain ⟨kb1, ko1, rfl⟩ := h1.addr (i := k) (by simpa using hlt)
    obtain ⟨kb2, ko2, rfl⟩ := h2.addr (i := k) (by simpa using hlt2)
    refine T.skip (T.seq (T.block (T.seq ?_)))
    refine T.draws _ [(0, 0), (1, 0), (2, 0), (3, 0), (4, 0), (5, 0), (6, 0), (7, 0), (8, 0)] mixed (by kernel_rfl) (Sub.of (List.Sublist.refl _)) (fun _ _ _ h => h) ?_
    refine DO.quiet rfl (q_move rfl) (DO.quiet rfl (q_move rfl) (DO.quiet rfl (q_idx Try.underlying22 inf3 rfl rfl hlt) (DO.quiet rfl (q_load_sl Try.underlying3 rfl rfl h1 (ints_get hlt)) ?_)))
    refine DO.quiet rfl (q_move rfl) (DO.quiet rfl (q_move rfl) (DO.quiet rfl (q_idx Try.underlying22 inf3 rfl rfl hlt2) (DO.quiet rfl (q_load_sl Try.underlying3 rfl rfl h2 (ints_get hlt2)) ?_)))
    refine DO.quiet rfl (q_neq rfl rfl) ?_
    refine DO.done ?_
    refine T.condP (p := ¬ xs[k] = ys[k]) rfl (fun hc => ?_) (fun hc => ?_)
    · refine T.seq ?_
      refine T.region ?_
      refine TO.quiet (q_assign rfl) ?_
      refine TO.nil (T.ret ?_)
      refine Res.one (.bool false) Try.results47 rfl ?_
      exact ⟨congrArg Value.bool (decide_eq_false (fun e => hc (by subst e; rfl))).symm, rfl⟩
    refine T.skip (T.region ?_)
    refine TO.quiet (q_move rfl) (TO.quiet (q_inc rfl rfl (by omega)) (TO.quiet (q_assign rfl) ?_))
    refine TO.nil ?_
    refine ⟨k + 1, by omega, rfl, by omega, ?_, ⟨rfl, rfl, rfl, trivial⟩⟩
    rw [List.take_succ_eq_append_getElem hlt, List.take_succ_eq_append_getElem hlt2, he]
    exact congrArg _ (congrArg (fun z => [z]) (Classical.not_not.1 hc))
  have hge14 : ¬ k < xs.length := by omega
  refine T.exit ?_
  refine T.seq (T.region ?_)
  refine TO.quiet (q_assign rfl) ?_
  refine TO.nil (T.ret ?_)
  refine Res.one (.bool true) Try.results47 rfl ?_
  exact ⟨congrArg Value.bool (decide_eq_true (show xs = ys by rw [List.take_of_length_le (by omega), List.take_of_length_le (by omega)] at he; exact he)).symm, rfl⟩
set_option maxHeartbeats 1000000 in
set_option maxRecDepth 20000 in
theorem equalBools (w : World) (b1 b2 : Option Addr) (c1 c2 : Nat) (xs ys : List Bool) (h1 : Sl w b1 (bools xs)) (h2 : Sl w b2 (bools ys)) (hb : xs.length < 9223372036854775807) :
    PureT Try.prog 23 [(.slice b1 xs.length c1), (.slice b2 ys.length c2)] w fun v N => v = .bool (decide (xs = ys)) ∧ N = [] := by
  refine CallT.enter Try.func23 rfl Try.ntmps23 rfl ?_
  refine T.seq (T.region ?_)
  refine TO.quiet (q_assign rfl) ?_
  refine TO.nil (T.seq (T.seq (T.region ?_)))
  refine TO.quiet (q_move rfl) (TO.quiet (q_len Try.underlying39 rfl) (TO.quiet (q_move rfl) (TO.quiet (q_len Try.underlying39 rfl) ?_)))
  refine TO.quiet (q_neq rfl rfl) ?_
  refine TO.nil ?_
  refine T.condP rfl (fun hc => ?_) (fun hc => ?_)
  · have hlt10 : xs.length ≠ ys.length := by omega
    have hlen : xs.length ≠ ys.length := by omega
    refine T.seq (T.region ?_)
    refine TO.quiet (q_assign rfl) ?_
    refine TO.nil (T.ret ?_)
    refine Res.one (.bool false) Try.results23 rfl ?_
    exact ⟨congrArg Value.bool (decide_eq_false (fun e => hlen (by rw [e]))).symm, rfl⟩
  have hge10 : ¬ xs.length ≠ ys.length := by omega
  have hlen : xs.length = ys.length := by omega
  refine T.skip (T.seq (T.seq (T.region ?_)))
  refine TO.quiet (q_assign rfl) ?_
  refine TO.nil (T.block ?_)
  refine T.loop (fun (k : Nat) ρ O => O = [] ∧ k ≤ xs.length ∧ xs.take k = ys.take k ∧ Heads [(0, (.slice b1 xs.length c1)), (1, (.slice b2 ys.length c2)), (5, .int .i64 (k : Int))] ρ) (fun k => xs.length - k) 0 ?_ ?_
  · exact ⟨rfl, Nat.zero_le _, rfl, ⟨rfl, rfl, rfl, trivial⟩⟩
  rintro k ρ O ⟨rfl, hk, he, hH⟩
  obtain ⟨ρ0, rfl⟩ := hH.elim
  clear hH
  refine T.seq (T.seq (T.region ?_))
  refine TO.quiet (q_move rfl) (TO.quiet (q_move rfl) (TO.quiet (q_len Try.underlying39 rfl) (TO.quiet (q_lss rfl rfl) ?_)))
  refine TO.nil ?_
  refine T.condP rfl (fun hc => ?_) (fun hc => ?_)
  · have hlt14 : k < xs.length := by omega
    have hlt : k < xs.length := by omega
    have hlt2 : k < ys.length := by omega
    obtain ⟨kb1, ko1, rfl⟩ := h1.addr (i := k) (by simpa using hlt)
    obtain ⟨kb2, ko2, rfl⟩ := h2.addr (i := k) (by simpa using hlt2)
    refine T.skip (T.seq (T.block (T.seq ?_)))
    refine T.draws _ [(0, 0), (1, 0), (2, 0), (3, 0), (4, 0), (5, 0), (6, 0), (7, 0), (8, 0)] mixed (by kernel_rfl) (Sub.of (List.Sublist.refl _)) (fun _ _ _ h => h) ?_
    refine DO.quiet rfl (q_move rfl) (DO.quiet rfl (q_move rfl) (DO.quiet rfl (q_idx Try.underlying39 inf4 rfl rfl hlt) (DO.quiet rfl (q_load_sl Try.underlying4 rfl rfl h1 (bools_get hlt)) ?_)))
    refine DO.quiet rfl (q_move rfl) (DO.quiet rfl (q_move rfl) (DO.quiet rfl (q_idx Try.underlying39 inf4 rfl rfl hlt2) (DO.quiet rfl (q_load_sl Try.underlying4 rfl rfl h2 (bools_get hlt2)) ?_)))
    refine DO.quiet rfl (q_bneq Try.underlying4 rfl rfl) ?_
    refine DO.done ?_
    refine T.condP (p := ¬ xs[k] = ys[k]) (congrArg Value.bool (by cases xs[k] <;> cases ys[k] <;> rfl)) (fun hc => ?_) (fun hc => ?_)
    · refine T.seq ?_
      refine T.region ?_
      refine TO.quiet (q_assign rfl) ?_
      refine TO.nil (T.ret ?_)
      refine Res.one (.bool false) Try.results23 rfl ?_
      exact ⟨congrArg Value.bool (decide_eq_false (fun e => hc (by subst e; rfl))).symm, rfl⟩
    refine T.skip (T.region ?_)
    refine TO.quiet (q_move rfl) (TO.quiet (q_inc rfl rfl (by omega)) (TO.quiet (q_assign rfl) ?_))
    refine TO.nil ?_
    refine ⟨k + 1, by omega, rfl, by omega, ?_, ⟨rfl, rfl, rfl, trivial⟩⟩
    rw [List.take_succ_eq_append_getElem hlt, List.take_succ_eq_append_getElem hlt2, he]
    exact congrArg _ (congrArg (fun z => [z]) (Classical.not_not.1 hc))
  have hge14 : ¬ k < xs.length := by omega
  refine T.exit ?_
  refine T.seq (T.region ?_)
  refine TO.quiet (q_assign rfl) ?_
  refine TO.nil (T.ret ?_)
  refine Res.one (.bool true) Try.results23 rfl ?_
  exact ⟨congrArg Value.bool (decide_eq_true (show xs = ys by rw [List.take_of_length_le (by omega), List.take_of_length_le (by omega)] at he; exact he)).symm, rfl⟩
set_option maxHeartbeats 1000000 in
set_option maxRecDepth 20000 in
theorem copyInts (w : World) (b1 : Option Addr) (c1 : Nat) (xs : List Int) (h1 : Sl w b1 (ints xs)) (hb : xs.length * 8 ≤ 70368744177664) :
    PureT Try.prog 48 [.slice b1 xs.length c1] w fun v N => ∃ b c, v = .slice b xs.length c ∧ N = [rowI b c 3 1 (ints xs)] := by
  refine CallT.enter Try.func48 rfl Try.ntmps48 rfl ?_
  refine T.seq (T.region ?_)
  refine TO.quiet (q_assign rfl) ?_
  refine TO.nil (T.seq (T.region ?_))
  refine TO.quiet (q_move rfl) ?_
  refine TO.loud rfl (l_appendN (l := xs.length) Try.underlying22 Try.underlying22 inf3 rfl rfl rfl (by decide) (Src.sl h1 (by simp)) (ints_one xs) (by omega) (by decide) (by decide) (fun b1 c2 => ?_))
  refine TO.quiet (q_assign rfl) ?_
  refine TO.nil (T.ret ?_)
  refine Res.one (.slice b1 xs.length c2) Try.results48 rfl ?_
  exact ⟨_, _, rfl, rfl⟩
set_option maxHeartbeats 1000000 in
set_option maxRecDepth 20000 in
theorem copyBytes (w : World) (b1 : Option Addr) (c1 : Nat) (xs : List Nat) (h1 : Sl w b1 (byts xs)) (hb : xs.length * 1 ≤ 70368744177664) :
    PureT Try.prog 32 [.slice b1 xs.length c1] w fun v N => ∃ b c, v = .slice b xs.length c ∧ N = [rowI b c 5 1 (byts xs)] := by
  refine CallT.enter Try.func32 rfl Try.ntmps32 rfl ?_
  refine T.seq (T.region ?_)
  refine TO.quiet (q_assign rfl) ?_
  refine TO.nil (T.seq (T.region ?_))
  refine TO.quiet (q_move rfl) ?_
  refine TO.loud rfl (l_appendN (l := xs.length) Try.underlying27 Try.underlying27 inf5 rfl rfl rfl (by decide) (Src.sl h1 (by simp)) (byts_one xs) (by omega) (by decide) (by decide) (fun b1 c2 => ?_))
  refine TO.quiet (q_assign rfl) ?_
  refine TO.nil (T.ret ?_)
  refine Res.one (.slice b1 xs.length c2) Try.results32 rfl ?_
  exact ⟨_, _, rfl, rfl⟩
set_option maxHeartbeats 1000000 in
set_option maxRecDepth 20000 in
theorem equalRows (w : World) (b1 b2 : Option Addr) (c1 c2 : Nat) (vs us : List Value) (rs ss : List (List Int)) (h1 : Sl w b1 vs) (hr1 : RowsR w vs rs) (h2 : Sl w b2 us) (hr2 : RowsR w us ss) (hb : rs.length < 9223372036854775807) (hbr : ∀ r ∈ rs, r.length < 9223372036854775807) :
    PureT Try.prog 67 [.slice b1 rs.length c1, .slice b2 ss.length c2] w fun v N => v = .bool (decide (rs = ss)) ∧ N = [] := by
  refine CallT.enter Try.func67 rfl Try.ntmps67 rfl ?_
  refine T.seq (T.region ?_)
  refine TO.quiet (q_assign rfl) ?_
  refine TO.nil (T.seq (T.seq (T.region ?_)))
  refine TO.quiet (q_move rfl) (TO.quiet (q_len Try.underlying24 rfl) (TO.quiet (q_move rfl) (TO.quiet (q_len Try.underlying24 rfl) ?_)))
  refine TO.quiet (q_neq rfl rfl) ?_
  refine TO.nil ?_
  refine T.condP rfl (fun hc => ?_) (fun hc => ?_)
  · have hlt10 : rs.length ≠ ss.length := by omega
    have hlen : rs.length ≠ ss.length := by omega
    refine T.seq (T.region ?_)
    refine TO.quiet (q_assign rfl) ?_
    refine TO.nil (T.ret ?_)
    refine Res.one (.bool false) Try.results67 rfl ?_
    exact ⟨congrArg Value.bool (decide_eq_false (fun e => hlen (by rw [e]))).symm, rfl⟩
  have hge10 : ¬ rs.length ≠ ss.length := by omega
  have hlen : rs.length = ss.length := by omega
  refine T.skip (T.seq (T.seq (T.region ?_)))
  refine TO.quiet (q_assign rfl) ?_
  refine TO.nil (T.block ?_)
  refine T.loop (fun (k : Nat) ρ O => O = [] ∧ k ≤ rs.length ∧ rs.take k = ss.take k ∧ Heads [(0, (.slice b1 rs.length c1)), (1, (.slice b2 ss.length c2)), (5, .int .i64 (k : Int))] ρ) (fun k => rs.length - k) 0 ?_ ?_
  · exact ⟨rfl, Nat.zero_le _, rfl, ⟨rfl, rfl, rfl, trivial⟩⟩
  rintro k ρ O ⟨rfl, hk, he, hH⟩
  obtain ⟨ρ0, rfl⟩ := hH.elim
  clear hH
  refine T.seq (T.seq (T.region ?_))
  refine TO.quiet (q_move rfl) (TO.quiet (q_move rfl) (TO.quiet (q_len Try.underlying24 rfl) (TO.quiet (q_lss rfl rfl) ?_)))
  refine TO.nil ?_
  refine T.condP rfl (fun hc => ?_) (fun hc => ?_)
  · have hlt14 : k < rs.length := by omega
    have hlt : k < rs.length := by omega
    have hlt2 : k < ss.length := by omega
    obtain ⟨vb1, vc1, g1, s1⟩ := hr1.get hlt
    obtain ⟨vb2, vc2, g2, s2⟩ := hr2.get hlt2
    obtain ⟨kb1, ko1, rfl⟩ := h1.addr (i := k) (by rw [hr1.1]; exact hlt)
    obtain ⟨kb2, ko2, rfl⟩ := h2.addr (i := k) (by rw [hr2.1]; exact hlt2)
    refine T.skip (T.seq (T.block (T.seq ?_)))
    refine T.draws _ [(0, 0), (1, 0), (2, 0), (3, 0), (4, 0), (5, 0), (6, 0), (7, 0), (8, 2), (9, 2)] mixed (by kernel_rfl) (Sub.of (List.Sublist.refl _)) (fun _ _ _ h => h) ?_
    refine DO.quiet rfl (q_move rfl) (DO.quiet rfl (q_move rfl) (DO.quiet rfl (q_idx Try.underlying24 inf22 rfl rfl hlt) (DO.quiet rfl (q_load_sl Try.underlying22 rfl rfl h1 g1) ?_)))
    refine DO.quiet rfl (q_move rfl) (DO.quiet rfl (q_move rfl) (DO.quiet rfl (q_idx Try.underlying24 inf22 rfl rfl hlt2) (DO.quiet rfl (q_load_sl Try.underlying22 rfl rfl h2 g2) ?_)))
    have hk25 := fun (w1 : World) (hI : Inv w [] w1) => equalInts w1 vb1 vb2 vc1 vc2 rs[k] ss[k] (hI.sl s1) (hI.sl s2) (hbr _ (List.getElem_mem hlt))
    refine DO.last rfl rfl (l_call ent47 (CallT.of_pure hk25) rfl ?_)
    clear hk25
    rintro v O' ⟨N, rfl, rfl, rfl⟩
    refine DO.last rfl rfl (LT.of_quiet rfl rfl (q_not rfl) ?_)
    refine DO.done ?_
    refine T.condP (p := ¬ rs[k] = ss[k]) (congrArg Value.bool (by simp)) (fun hc => ?_) (fun hc => ?_)
    · refine T.seq ?_
      refine T.region ?_
      refine TO.quiet (q_assign rfl) ?_
      refine TO.nil (T.ret ?_)
      refine Res.one (.bool false) Try.results67 rfl ?_
      exact ⟨congrArg Value.bool (decide_eq_false (fun e => hc (by subst e; rfl))).symm, rfl⟩
    refine T.skip (T.region ?_)
    refine TO.quiet (q_move rfl) (TO.quiet (q_inc rfl rfl (by omega)) (TO.quiet (q_assign rfl) ?_))
    refine TO.nil ?_
    refine ⟨k + 1, by omega, rfl, by omega, ?_, ⟨rfl, rfl, rfl, trivial⟩⟩
    rw [List.take_succ_eq_append_getElem hlt, List.take_succ_eq_append_getElem hlt2, he]
    exact congrArg _ (congrArg (fun z => [z]) (Classical.not_not.1 hc))
  have hge14 : ¬ k < rs.length := by omega
  refine T.exit ?_
  refine T.seq (T.region ?_)
  refine TO.quiet (q_assign rfl) ?_
  refine TO.nil (T.ret ?_)
  refine Res.one (.bool true) Try.results67 rfl ?_
  exact ⟨congrArg Value.bool (decide_eq_true (show rs = ss by rw [List.take_of_length_le (by omega), List.take_of_length_le (by omega)] at he; exact he)).symm, rfl⟩
set_option maxHeartbeats 1000000 in
set_option maxRecDepth 20000 in
theorem copyRows (w : World) (b1 : Option Addr) (c1 : Nat) (vs : List Value) (rs : List (List Int)) (h1 : Sl w b1 vs) (hr1 : RowsR w vs rs) (hb : rs.length * 24 ≤ 70368744177664) (hbr : ∀ r ∈ rs, r.length * 8 ≤ 70368744177664) :
    PureT Try.prog 50 [.slice b1 rs.length c1] w fun v N => ∃ b c qs, v = .slice b rs.length c ∧ N = rowI b c 22 1 (vals qs) :: itms 3 qs ∧ nums qs = rs := by
  refine CallT.enter Try.func50 rfl Try.ntmps50 rfl ?_
  refine T.seq (T.region ?_)
  refine TO.quiet (q_assign rfl) ?_
  refine TO.nil (T.seq (T.region ?_))
  refine TO.quiet (q_assign rfl) ?_
  refine TO.nil (T.seq (T.seq (T.region ?_)))
  refine TO.quiet (q_assign rfl) ?_
  refine TO.nil (T.block ?_)
  refine T.nilRow 22 1 ?_
  refine T.loop (fun (k : Nat) ρ O => ∃ (qs : List Rec) (ob : Option Addr) (oc : Nat), O = ([rowI ob oc 22 1 (vals qs)] ++ (itms 3 qs)) ∧ k ≤ rs.length ∧ qs.length = k ∧ nums qs = rs.take k ∧ Heads [(0, (.slice b1 rs.length c1)), (2, (.slice none 0 0)), (3, (.slice ob k oc)), (4, .int .i64 (k : Int))] ρ) (fun k => rs.length - k) 0 ?_ ?_
  · exact ⟨[], none, 0, rfl, Nat.zero_le _, rfl, rfl, ⟨rfl, rfl, rfl, rfl, trivial⟩⟩
  rintro k ρ O ⟨qs, ob, oc, rfl, hk, hql, hqs, hH⟩
  obtain ⟨ρ0, rfl⟩ := hH.elim
  clear hH
  refine T.seq (T.seq (T.region ?_))
  refine TO.quiet (q_move rfl) (TO.quiet (q_move rfl) (TO.quiet (q_len Try.underlying24 rfl) (TO.quiet (q_lss rfl rfl) ?_)))
  refine TO.nil ?_
  refine T.condP rfl (fun hc => ?_) (fun hc => ?_)
  · have hlt8 : k < rs.length := by omega
    have hlt : k < rs.length := by omega
    obtain ⟨vb1, vc1, g1, s1⟩ := hr1.get hlt
    obtain ⟨kb1, ko1, rfl⟩ := h1.addr (i := k) (by rw [hr1.1]; exact hlt)
    have hbk := hbr _ (List.getElem_mem hlt)
    refine T.skip (T.seq (T.block (T.region ?_)))
    refine TO.quiet (q_move rfl) (TO.quiet (q_move rfl) (TO.quiet (q_move rfl) (TO.quiet (q_idx Try.underlying24 inf22 rfl rfl hlt) ?_)))
    refine TO.quiet (q_load_sl Try.underlying22 rfl rfl h1 g1) ?_
    have hk16 := fun (w1 : World) (hI : Inv w ([rowI ob oc 22 1 (vals qs)] ++ (itms 3 qs)) w1) => copyInts w1 vb1 vc1 rs[k] (hI.sl s1) hbk
    refine TO.loud rfl (l_call ent48 (CallT.of_pure hk16) rfl ?_)
    clear hk16
    rintro v O' ⟨N, rfl, cb, cc, rfl, rfl⟩
    refine TO.loud rfl (l_build1 (v := (.slice cb rs[k].length cc)) Try.underlying24 inf22 rfl rfl rfl (fun b1 => ?_))
    refine TO.loud rfl (l_append 2 Try.underlying24 Try.underlying24 inf22 rfl rfl rfl rfl (by simp [hql]) (by decide) (Src.row (j := 0) rfl (by simp)) (by simp [oneB]) (by omega) (by decide) (by decide) (fun b2 c3 => ?_))
    refine TO.quiet (q_assign rfl) ?_
    refine TO.nil ?_
    refine T.sub (O' := rowI b2 c3 22 1 (vals (qs ++ [⟨cb, cc, rs[k]⟩])) :: itms 3 (qs ++ [⟨cb, cc, rs[k]⟩])) (by rw [show vals qs ++ [Value.slice cb rs[k].length cc] = vals (qs ++ [⟨cb, cc, rs[k]⟩]) by simp [Rec.val]]; simp only [itms, List.map_append]; exact sub_push') ?_
    refine T.region ?_
    refine TO.quiet (q_move rfl) (TO.quiet (q_inc rfl rfl (by omega)) (TO.quiet (q_assign rfl) ?_))
    refine TO.nil ?_
    refine ⟨k + 1, by omega, qs ++ [⟨cb, cc, rs[k]⟩], _, _, rfl, by omega, by simp [hql], ?_, ⟨rfl, rfl, rfl, rfl, trivial⟩⟩
    rw [List.take_succ_eq_append_getElem hlt, ← hqs]; simp [nums]
  have hge8 : ¬ k < rs.length := by omega
  refine T.exit ?_
  refine T.seq (T.region ?_)
  refine TO.quiet (q_move rfl) (TO.quiet (q_assign rfl) ?_)
  refine TO.nil (T.ret ?_)
  refine Res.one (.slice ob k oc) Try.results50 rfl ?_
  have hke : k = rs.length := by omega
  subst hke
  exact ⟨ob, oc, qs, rfl, rfl, by rw [hqs, List.take_of_length_le (Nat.le_refl _)]⟩
set_option maxHeartbeats 1000000 in
set_option maxRecDepth 20000 in
theorem overInts (base : World) (b : Option Addr) (c c' : Nat) (xs : List Int) (hb : xs.length < 9223372036854775807) :
    CallT Try.prog base 87 [.slice b xs.length c'] [rowI b c 3 1 (ints xs)] (fun _ O' => O' = []) := by
  refine CallT.enter Try.func87 rfl Try.ntmps87 rfl ?_
  refine T.seq (T.region ?_)
  refine TO.quiet (q_assign rfl) ?_
  refine TO.nil (T.block ?_)
  refine T.loop (fun (k : Nat) ρ O => ∃ (ys : List Int), O = [rowI b c 3 1 (ints ys)] ∧ k ≤ xs.length ∧ ys.length = xs.length ∧ Heads [(0, (.slice b xs.length c')), (2, .int .i64 (k : Int))] ρ) (fun k => xs.length - k) 0 ?_ ?_
  · exact ⟨xs, rfl, Nat.zero_le _, rfl, ⟨rfl, rfl, trivial⟩⟩
  rintro k ρ O ⟨ys, rfl, hk, hyl, hH⟩
  obtain ⟨ρ0, rfl⟩ := hH.elim
  clear hH
  refine T.seq (T.seq (T.region ?_))
  refine TO.quiet (q_move rfl) (TO.quiet (q_move rfl) (TO.quiet (q_len Try.underlying22 rfl) (TO.quiet (q_lss rfl rfl) ?_)))
  refine TO.nil ?_
  refine T.condP rfl (fun hc => ?_) (fun hc => ?_)
  · have hlt6 : k < xs.length := by omega
    have hlt : k < ys.length := by omega
    refine T.skip (T.seq (T.block (T.region ?_)))
    refine TO.quiet (q_move rfl) (TO.quiet (q_move rfl) (TO.quiet (q_ix (i := k) Try.underlying22 inf3 rfl rfl (rowO (List.mem_of_getElem? (i := 0) rfl))) ?_))
    refine TO.loud rfl (l_st (j := k) (v := .int .i64 (-77)) (vs := [(.int .i64 (-77))]) (cs := ints ys) 0 inf3 rfl rfl rfl rfl rfl (by simp) rfl (by first | (simp; omega) | (simp_all; omega)) ?_)
    refine TO.sub (O' := [rowI b c 3 1 (ints (ys.set k (-77)))]) (by rw [show putL (ints ys) k [(.int .i64 (-77))] = ints (ys.set k (-77)) from by simp [putL]]; exact Sub.of (List.Sublist.refl _)) ?_
    refine TO.nil (T.region ?_)
    refine TO.quiet (q_move rfl) (TO.quiet (q_inc rfl rfl (by omega)) (TO.quiet (q_assign rfl) ?_))
    refine TO.nil ?_
    exact ⟨k + 1, by omega, ys.set k (-77), rfl, by omega, by simp [hyl], ⟨rfl, rfl, trivial⟩⟩
  have hge6 : ¬ k < xs.length := by omega
  refine T.exit ?_
  refine Res.drop ?_
  refine Res.zero Try.results87 ?_
  exact ⟨[], Sub.of (List.nil_sublist _), rfl⟩
set_option maxHeartbeats 1000000 in
set_option maxRecDepth 20000 in
theorem overBools (base : World) (b : Option Addr) (c c' : Nat) (xs : List Bool) (hb : xs.length < 9223372036854775807) :
    CallT Try.prog base 24 [.slice b xs.length c'] [rowI b c 4 1 (bools xs)] (fun _ O' => O' = []) := by
  refine CallT.enter Try.func24 rfl Try.ntmps24 rfl ?_
  refine T.seq (T.region ?_)
  refine TO.quiet (q_assign rfl) ?_
  refine TO.nil (T.block ?_)
  refine T.loop (fun (k : Nat) ρ O => ∃ (ys : List Bool), O = [rowI b c 4 1 (bools ys)] ∧ k ≤ xs.length ∧ ys.length = xs.length ∧ Heads [(0, (.slice b xs.length c')), (2, .int .i64 (k : Int))] ρ) (fun k => xs.length - k) 0 ?_ ?_
  · exact ⟨xs, rfl, Nat.zero_le _, rfl, ⟨rfl, rfl, trivial⟩⟩
  rintro k ρ O ⟨ys, rfl, hk, hyl, hH⟩
  obtain ⟨ρ0, rfl⟩ := hH.elim
  clear hH
  refine T.seq (T.seq (T.region ?_))
  refine TO.quiet (q_move rfl) (TO.quiet (q_move rfl) (TO.quiet (q_len Try.underlying39 rfl) (TO.quiet (q_lss rfl rfl) ?_)))
  refine TO.nil ?_
  refine T.condP rfl (fun hc => ?_) (fun hc => ?_)
  · have hlt6 : k < xs.length := by omega
    have hlt : k < ys.length := by omega
    refine T.skip (T.seq (T.block (T.region ?_)))
    refine TO.quiet (q_move rfl) (TO.quiet (q_move rfl) (TO.quiet (q_move rfl) (TO.quiet (q_move rfl) ?_)))
    refine TO.quiet (q_ix (i := k) Try.underlying39 inf4 rfl rfl (rowO (List.mem_of_getElem? (i := 0) rfl))) (TO.quiet (q_ld Try.underlying4 rfl rfl (rowO (List.mem_of_getElem? (i := 0) rfl)) bools_get) (TO.quiet (q_not rfl) (TO.quiet (q_ix (i := k) Try.underlying39 inf4 rfl rfl (rowO (List.mem_of_getElem? (i := 0) rfl))) ?_)))
    refine TO.loud rfl (l_st (j := k) (v := .bool (!ys[k])) (vs := [(.bool (!ys[k]))]) (cs := bools ys) 0 inf4 rfl rfl rfl rfl rfl (by simp) rfl (by first | (simp; omega) | (simp_all; omega)) ?_)
    refine TO.sub (O' := [rowI b c 4 1 (bools (ys.set k (!ys[k])))]) (by rw [show putL (bools ys) k [(.bool (!ys[k]))] = bools (ys.set k (!ys[k])) from by simp [putL]]; exact Sub.of (List.Sublist.refl _)) ?_
    refine TO.nil (T.region ?_)
    refine TO.quiet (q_move rfl) (TO.quiet (q_inc rfl rfl (by omega)) (TO.quiet (q_assign rfl) ?_))
    refine TO.nil ?_
    exact ⟨k + 1, by omega, ys.set k (!ys[k]), rfl, by omega, by simp [hyl], ⟨rfl, rfl, trivial⟩⟩
  have hge6 : ¬ k < xs.length := by omega
  refine T.exit ?_
  refine Res.drop ?_
  refine Res.zero Try.results24 ?_
  exact ⟨[], Sub.of (List.nil_sublist _), rfl⟩
set_option maxHeartbeats 1000000 in
set_option maxRecDepth 20000 in
theorem overRows (base : World) (b : Option Addr) (c c' : Nat) (qs : List Rec) (hb : qs.length < 9223372036854775807) (hbr : ∀ q ∈ qs, q.xs.length < 9223372036854775807) :
    CallT Try.prog base 89 [.slice b qs.length c'] (rowI b c 22 1 (vals qs) :: itms 3 qs) (fun _ O' => O' = []) := by
  refine CallT.enter Try.func89 rfl Try.ntmps89 rfl ?_
  refine T.seq (T.region ?_)
  refine TO.quiet (q_assign rfl) ?_
  refine TO.nil (T.block ?_)
  refine T.loop (fun (k : Nat) ρ O => O = ([rowI b c 22 1 (vals qs)] ++ (itms 3 (qs.drop k))) ∧ k ≤ qs.length ∧ Heads [(0, (.slice b qs.length c')), (2, .int .i64 (k : Int))] ρ) (fun k => qs.length - k) 0 ?_ ?_
  · exact ⟨rfl, Nat.zero_le _, ⟨rfl, rfl, trivial⟩⟩
  rintro k ρ O ⟨rfl, hk, hH⟩
  obtain ⟨ρ0, rfl⟩ := hH.elim
  clear hH
  refine T.seq (T.seq (T.region ?_))
  refine TO.quiet (q_move rfl) (TO.quiet (q_move rfl) (TO.quiet (q_len Try.underlying24 rfl) (TO.quiet (q_lss rfl rfl) ?_)))
  refine TO.nil ?_
  refine T.condP rfl (fun hc => ?_) (fun hc => ?_)
  · have hlt6 : k < qs.length := by omega
    have hlt : k < qs.length := by omega
    have hit : itms 3 (qs.drop k) = rowI qs[k].b qs[k].c 3 1 (ints qs[k].xs) :: itms 3 (qs.drop (k + 1)) := by rw [List.drop_eq_getElem_cons hlt]; rfl
    refine T.skip (T.seq (T.block (T.region ?_)))
    refine TO.quiet (q_move rfl) (TO.quiet (q_move rfl) (TO.quiet (q_ix (i := k) Try.underlying24 inf22 rfl rfl (rowO (List.mem_of_getElem? (i := 0) rfl))) (TO.quiet (q_ld Try.underlying22 rfl rfl (rowO (List.mem_of_getElem? (i := 0) rfl)) (show (vals qs)[k]? = some (.slice qs[k].b qs[k].xs.length qs[k].c) by simp [hlt, Rec.val])) ?_)))
    have hk13 := CallT.under (B := rowI b c 22 1 (vals qs) :: itms 3 (qs.drop (k + 1))) (O := ([rowI b c 22 1 (vals qs)] ++ (itms 3 (qs.drop k)))) (overInts base qs[k].b qs[k].c qs[k].c qs[k].xs (hbr _ (List.getElem_mem hlt))) (by rw [hit]; exact Sub.cnt [] (by intro a; simp only [itms, oI, List.set_cons_zero, List.set_cons_succ, putL, List.cons_append, List.nil_append, List.append_nil, List.append_assoc, List.map_append, List.map_cons, List.map_nil, cnt_append, cnt_cons, cnt_nil, buCells, laCells] <;> omega))
    refine TO.loud rfl (l_call ent87 hk13 rfl ?_)
    clear hk13
    rintro v O' ⟨A1, rfl, rfl⟩
    refine TO.nil (T.region ?_)
    refine TO.quiet (q_move rfl) (TO.quiet (q_inc rfl rfl (by omega)) (TO.quiet (q_assign rfl) ?_))
    refine TO.nil ?_
    exact ⟨k + 1, by omega, rfl, by omega, ⟨rfl, rfl, trivial⟩⟩
  have hge6 : ¬ k < qs.length := by omega
  refine T.exit ?_
  refine Res.drop ?_
  refine Res.zero Try.results89 ?_
  exact ⟨[], Sub.of (List.nil_sublist _), rfl⟩
set_option maxHeartbeats 1000000 in
set_option maxRecDepth 20000 in
theorem equalEdges (w : World) (b1 b2 : Option Addr) (c1 c2 : Nat) (xs ys : List Ed) (h1 : Sl w b1 (edsC xs)) (h2 : Sl w b2 (edsC ys)) (hb : xs.length ≤ 1000000) :
    PureT Try.prog 66 [.slice b1 xs.length c1, .slice b2 ys.length c2] w fun v N => v = .bool (decide (xs = ys)) ∧ N = [] := by
  refine CallT.enter Try.func66 rfl Try.ntmps66 rfl ?_
  refine T.seq (T.region ?_)
  refine TO.quiet (q_assign rfl) ?_
  refine TO.nil (T.seq (T.seq (T.region ?_)))
  refine TO.quiet (q_move rfl) (TO.quiet (q_len Try.underlying23 rfl) (TO.quiet (q_move rfl) (TO.quiet (q_len Try.underlying23 rfl) ?_)))
  refine TO.quiet (q_neq rfl rfl) ?_
  refine TO.nil ?_
  refine T.condP rfl (fun hc => ?_) (fun hc => ?_)
  · have hlt10 : xs.length ≠ ys.length := by omega
    have hlen : xs.length ≠ ys.length := by omega
    refine T.seq (T.region ?_)
    refine TO.quiet (q_assign rfl) ?_
    refine TO.nil (T.ret ?_)
    refine Res.one (.bool false) Try.results66 rfl ?_
    exact ⟨congrArg Value.bool (decide_eq_false (fun e => hlen (by rw [e]))).symm, rfl⟩
  have hge10 : ¬ xs.length ≠ ys.length := by omega
  have hlen : xs.length = ys.length := by omega
  refine T.skip (T.seq (T.seq (T.region ?_)))
  refine TO.quiet (q_assign rfl) ?_
  refine TO.nil (T.block ?_)
  refine T.loop (fun (k : Nat) ρ O => O = [] ∧ k ≤ xs.length ∧ xs.take k = ys.take k ∧ Heads [(0, (.slice b1 xs.length c1)), (1, (.slice b2 ys.length c2)), (5, .int .i64 (k : Int))] ρ) (fun k => xs.length - k) 0 ?_ ?_
  · exact ⟨rfl, Nat.zero_le _, rfl, ⟨rfl, rfl, rfl, trivial⟩⟩
  rintro k ρ O ⟨rfl, hk, he, hH⟩
  obtain ⟨ρ0, rfl⟩ := hH.elim
  clear hH
  refine T.seq (T.seq (T.region ?_))
  refine TO.quiet (q_move rfl) (TO.quiet (q_move rfl) (TO.quiet (q_len Try.underlying23 rfl) (TO.quiet (q_lss rfl rfl) ?_)))
  refine TO.nil ?_
  refine T.condP rfl (fun hc => ?_) (fun hc => ?_)
  · have hlt14 : k < xs.length := by omega
    have hlt2 : k < ys.length := by omega
    refine T.skip (T.seq (T.block (T.seq ?_)))
    refine T.draws _ [(0, 0), (1, 0), (2, 0), (3, 0), (4, 0), (5, 0), (6, 0), (7, 0), (8, 0)] mixed (by kernel_rfl) (Sub.of (List.Sublist.refl _)) (fun _ _ _ h => h) ?_
    refine DO.quiet rfl (q_move rfl) (DO.quiet rfl (q_move rfl) (DO.quiet rfl (q_ixK (i := k) Try.underlying23 inf54 rfl rfl (Sl.o h1) (by first | assumption | omega | (simp; omega) | simp_all) (by first | (rw [eds_len]; omega) | (simp [eds_len]; omega) | (simp_all [eds_len]; omega))) (DO.quiet rfl (q_ldK (vs := [.int .i64 xs[k].fr, .int .i64 xs[k].to, .int .u8 ((xs[k].pos : Nat) : Int), .int .u8 ((xs[k].neg : Nat) : Int)]) Try.underlying54 rfl inf54 rfl rfl (Nat.succ_pos _) (Sl.o h1) (eds_get (by first | assumption | omega | (simp; omega) | simp_all))) ?_)))
    refine DO.quiet rfl (q_move rfl) (DO.quiet rfl (q_move rfl) (DO.quiet rfl (q_ixK (i := k) Try.underlying23 inf54 rfl rfl (Sl.o h2) (by first | assumption | omega | (simp; omega) | simp_all) (by first | (rw [eds_len]; omega) | (simp [eds_len]; omega) | (simp_all [eds_len]; omega))) (DO.quiet rfl (q_ldK (vs := [.int .i64 ys[k].fr, .int .i64 ys[k].to, .int .u8 ((ys[k].pos : Nat) : Int), .int .u8 ((ys[k].neg : Nat) : Int)]) Try.underlying54 rfl inf54 rfl rfl (Nat.succ_pos _) (Sl.o h2) (eds_get (by first | assumption | omega | (simp; omega) | simp_all))) ?_)))
    refine DO.quiet rfl (q_edgeNeq edgeT rfl rfl) ?_
    refine DO.done ?_
    refine T.condP rfl (fun hc => ?_) (fun hc => ?_)
    · refine T.seq ?_
      refine T.region ?_
      refine TO.quiet (q_assign rfl) ?_
      refine TO.nil (T.ret ?_)
      refine Res.one (.bool false) Try.results66 rfl ?_
      exact ⟨congrArg Value.bool (decide_eq_false (fun e => hc (by subst e; exact ⟨rfl, rfl, rfl, rfl⟩))).symm, rfl⟩
    refine T.skip (T.region ?_)
    refine TO.quiet (q_move rfl) (TO.quiet (q_addN (a := k) (b := 1) rfl rfl (by omega)) (TO.quiet (q_assign rfl) ?_))
    refine TO.nil ?_
    refine ⟨k + 1, by omega, rfl, by omega, ?_, ⟨rfl, rfl, rfl, trivial⟩⟩
    rw [List.take_succ_eq_append_getElem hlt14, List.take_succ_eq_append_getElem hlt2, he]
    have hq := Classical.not_not.1 hc
    refine congrArg _ (congrArg (fun z => [z]) ?_)
    generalize xs[k] = p at hq; generalize ys[k] = q at hq
    cases p; cases q; simp only [Ed.mk.injEq] at hq ⊢; omega
  have hge14 : ¬ k < xs.length := by omega
  refine T.exit ?_
  refine T.seq (T.region ?_)
  refine TO.quiet (q_assign rfl) ?_
  refine TO.nil (T.ret ?_)
  refine Res.one (.bool true) Try.results66 rfl ?_
  exact ⟨congrArg Value.bool (decide_eq_true (show xs = ys by rw [List.take_of_length_le (by omega), List.take_of_length_le (by omega)] at he; exact he)).symm, rfl⟩
set_option maxHeartbeats 1000000 in
set_option maxRecDepth 20000 in
theorem copyEdges (w : World) (b1 : Option Addr) (c1 : Nat) (xs : List Ed) (h1 : Sl w b1 (edsC xs)) (hb : xs.length ≤ 1000000) :
    PureT Try.prog 49 [.slice b1 xs.length c1] w fun v N => ∃ b c, v = .slice b xs.length c ∧ N = [rowI b c 54 4 (edsC xs)] := by
  refine CallT.enter Try.func49 rfl Try.ntmps49 rfl ?_
  refine T.seq (T.region ?_)
  refine TO.quiet (q_assign rfl) ?_
  refine TO.nil (T.seq (T.region ?_))
  refine TO.quiet (q_move rfl) ?_
  refine TO.loud rfl (l_appendN (l := xs.length) Try.underlying23 Try.underlying23 inf54 rfl rfl rfl (by decide) (Src.sl h1 (eds_len xs)) (eds_one xs) (by omega) (by decide) (by decide) (fun bx1 c2 => ?_))
  refine TO.quiet (q_assign rfl) ?_
  refine TO.nil (T.ret ?_)
  refine Res.one (.slice bx1 xs.length c2) Try.results49 rfl ?_
  exact ⟨_, _, rfl, rfl⟩
set_option maxHeartbeats 1000000 in
set_option maxRecDepth 20000 in
theorem letters (w : World) (b1 b2 : Option Addr) (c1 c2 : Nat) (xs ys : List Nat) (h1 : Sl w b1 (byts xs)) (h2 : Sl w b2 (byts ys)) (hb : xs.length < 9223372036854775807) :
    PureT Try.prog 68 [(.slice b1 xs.length c1), (.slice b2 ys.length c2)] w fun v N => v = .bool (decide (xs = ys)) ∧ N = [] := by
  refine CallT.enter Try.func68 rfl Try.ntmps68 rfl ?_
  refine T.seq (T.region ?_)
  refine TO.quiet (q_assign rfl) ?_
  refine TO.nil (T.seq (T.seq (T.region ?_)))
  refine TO.quiet (q_move rfl) (TO.quiet (q_len Try.underlying27 rfl) (TO.quiet (q_move rfl) (TO.quiet (q_len Try.underlying27 rfl) ?_)))
  refine TO.quiet (q_neq rfl rfl) ?_
  refine TO.nil ?_
  refine T.condP rfl (fun hc => ?_) (fun hc => ?_)
  · have hlt10 : xs.length ≠ ys.length := by omega
    have hlen : xs.length ≠ ys.length := by omega
    refine T.seq (T.region ?_)
    refine TO.quiet (q_assign rfl) ?_
    refine TO.nil (T.ret ?_)
    refine Res.one (.bool false) Try.results68 rfl ?_
    exact ⟨congrArg Value.bool (decide_eq_false (fun e => hlen (by rw [e]))).symm, rfl⟩
  have hge10 : ¬ xs.length ≠ ys.length := by omega
  have hlen : xs.length = ys.length := by omega
  refine T.skip (T.seq (T.seq (T.region ?_)))
  refine TO.quiet (q_assign rfl) ?_
  refine TO.nil (T.block ?_)
  refine T.loop (fun (k : Nat) ρ O => O = [] ∧ k ≤ xs.length ∧ xs.take k = ys.take k ∧ Heads [(0, (.slice b1 xs.length c1)), (1, (.slice b2 ys.length c2)), (5, .int .i64 (k : Int))] ρ) (fun k => xs.length - k) 0 ?_ ?_
  · exact ⟨rfl, Nat.zero_le _, rfl, ⟨rfl, rfl, rfl, trivial⟩⟩
  rintro k ρ O ⟨rfl, hk, he, hH⟩
  obtain ⟨ρ0, rfl⟩ := hH.elim
  clear hH
  refine T.seq (T.seq (T.region ?_))
  refine TO.quiet (q_move rfl) (TO.quiet (q_move rfl) (TO.quiet (q_len Try.underlying27 rfl) (TO.quiet (q_lss rfl rfl) ?_)))
  refine TO.nil ?_
  refine T.condP rfl (fun hc => ?_) (fun hc => ?_)
  · have hlt14 : k < xs.length := by omega
    have hlt : k < xs.length := by omega
    have hlt2 : k < ys.length := by omega
    obtain ⟨kb1, ko1, rfl⟩ := h1.addr (i := k) (by simpa using hlt)
    obtain ⟨kb2, ko2, rfl⟩ := h2.addr (i := k) (by simpa using hlt2)
    refine T.skip (T.seq (T.block (T.seq ?_)))
    refine T.draws _ [(0, 0), (1, 0), (2, 0), (3, 0), (4, 0), (5, 0), (6, 0), (7, 0), (8, 0)] mixed (by kernel_rfl) (Sub.of (List.Sublist.refl _)) (fun _ _ _ h => h) ?_
    refine DO.quiet rfl (q_move rfl) (DO.quiet rfl (q_move rfl) (DO.quiet rfl (q_idx Try.underlying27 inf5 rfl rfl hlt) (DO.quiet rfl (q_load_sl Try.underlying5 rfl rfl h1 (byts_get hlt)) ?_)))
    refine DO.quiet rfl (q_move rfl) (DO.quiet rfl (q_move rfl) (DO.quiet rfl (q_idx Try.underlying27 inf5 rfl rfl hlt2) (DO.quiet rfl (q_load_sl Try.underlying5 rfl rfl h2 (byts_get hlt2)) ?_)))
    refine DO.quiet rfl (q_neq rfl rfl) ?_
    refine DO.done ?_
    refine T.condP (p := ¬ xs[k] = ys[k]) (congrArg Value.bool (decide_eq_decide.2 (by omega))) (fun hc => ?_) (fun hc => ?_)
    · have hlt25 : xs[k] ≠ ys[k] := by omega
      refine T.seq (T.region ?_)
      refine TO.quiet (q_assign rfl) ?_
      refine TO.nil (T.ret ?_)
      refine Res.one (.bool false) Try.results68 rfl ?_
      exact ⟨congrArg Value.bool (decide_eq_false (fun e => hc (by subst e; rfl))).symm, rfl⟩
    have hge25 : ¬ xs[k] ≠ ys[k] := by omega
    refine T.skip (T.region ?_)
    refine TO.quiet (q_move rfl) (TO.quiet (q_addN (a := k) (b := 1) rfl rfl (by omega)) (TO.quiet (q_assign rfl) ?_))
    refine TO.nil ?_
    refine ⟨k + 1, by omega, rfl, by omega, ?_, ⟨rfl, rfl, rfl, trivial⟩⟩
    rw [List.take_succ_eq_append_getElem hlt, List.take_succ_eq_append_getElem hlt2, he]
    exact congrArg _ (congrArg (fun z => [z]) (Classical.not_not.1 hc))
  have hge14 : ¬ k < xs.length := by omega
  refine T.exit ?_
  refine T.seq (T.region ?_)
  refine TO.quiet (q_assign rfl) ?_
  refine TO.nil (T.ret ?_)
  refine Res.one (.bool true) Try.results68 rfl ?_
  exact ⟨congrArg Value.bool (decide_eq_true (show xs = ys by rw [List.take_of_length_le (by omega), List.take_of_length_le (by omega)] at he; exact he)).symm, rfl⟩
set_option maxHeartbeats 1000000 in
set_option maxRecDepth 20000 in
theorem hasInt (w : World) (b : Option Addr) (c : Nat) (xs : List Int) (x : Int) (h : Sl w b (ints xs)) (hb : xs.length < 9223372036854775807) : PureT Try.prog 31 [.slice b xs.length c, .int .i64 x] w fun v N => v = .bool (decide (x ∈ xs)) ∧ N = [] := by
  refine CallT.enter Try.func31 rfl Try.ntmps31 rfl ?_
  refine T.seq (T.region ?_)
  refine TO.quiet (q_assign rfl) ?_
  refine TO.nil (T.seq (T.seq (T.region ?_)))
  refine TO.quiet (q_assign rfl) ?_
  refine TO.nil (T.block ?_)
  refine T.loop (fun (k : Nat) ρ O => O = [] ∧ k ≤ xs.length ∧ x ∉ xs.take k ∧ Heads [(0, (.slice b xs.length c)), (1, .int .i64 x), (5, .int .i64 (k : Int))] ρ) (fun k => xs.length - k) 0 ?_ ?_
  · exact ⟨rfl, Nat.zero_le _, by simp, ⟨rfl, rfl, rfl, trivial⟩⟩
  rintro k ρ O ⟨rfl, hk, hm, hH⟩
  obtain ⟨ρ0, rfl⟩ := hH.elim
  clear hH
  refine T.seq (T.seq (T.region ?_))
  refine TO.quiet (q_move rfl) (TO.quiet (q_move rfl) (TO.quiet (q_len Try.underlying22 rfl) (TO.quiet (q_lss rfl rfl) ?_)))
  refine TO.nil ?_
  refine T.condP rfl (fun hc => ?_) (fun hc => ?_)
  · have hlt9 : k < xs.length := by omega
    refine T.skip (T.seq (T.block (T.seq (T.region ?_))))
    refine TO.quiet (q_move rfl) (TO.quiet (q_move rfl) (TO.quiet (q_ix (i := k) Try.underlying22 inf3 rfl rfl (Sl.o h)) (TO.quiet (q_ld Try.underlying3 rfl rfl (Sl.o h) ints_get) ?_)))
    refine TO.quiet (q_move rfl) (TO.quiet (q_eql rfl rfl) ?_)
    refine TO.nil ?_
    refine T.condP rfl (fun hc => ?_) (fun hc => ?_)
    · refine T.seq ?_
      refine T.region ?_
      refine TO.quiet (q_assign rfl) ?_
      refine TO.nil (T.ret ?_)
      refine Res.one (.bool true) Try.results31 rfl ?_
      exact ⟨congrArg Value.bool (decide_eq_true (by rw [← hc]; exact List.getElem_mem _)).symm, rfl⟩
    refine T.skip (T.region ?_)
    refine TO.quiet (q_move rfl) (TO.quiet (q_addN (a := k) (b := 1) rfl rfl (by omega)) (TO.quiet (q_assign rfl) ?_))
    refine TO.nil ?_
    refine ⟨k + 1, by omega, rfl, by omega, ?_, ⟨rfl, rfl, rfl, trivial⟩⟩
    rw [List.take_succ_eq_append_getElem hlt9]
    simp only [List.mem_append, List.mem_singleton, not_or]
    exact ⟨hm, fun e => hc e.symm⟩
  have hge9 : ¬ k < xs.length := by omega
  refine T.exit ?_
  refine T.seq (T.region ?_)
  refine TO.quiet (q_assign rfl) ?_
  refine TO.nil (T.ret ?_)
  refine Res.one (.bool false) Try.results31 rfl ?_
  exact ⟨congrArg Value.bool (decide_eq_false (by rwa [List.take_of_length_le (by omega)] at hm)).symm, rfl⟩
end Go.Proofs.Ytnamoapbienooaa

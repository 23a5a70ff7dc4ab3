/- Contracts of functions of the program (CoreL, CoreM, CoreN, CoreP, CoreQ, CoreR, Tar, Liv, Buc, BuM, BKit, BLas, BSli, TarL, Lv, BDel, BChk): what each call answers and that it leaves memory as it was. Conditions: those each theorem names. -/
import Derived.Test.YtnamoapbienooaaCoreK
set_option linter.unusedSectionVars false
set_option linter.unusedSimpArgs false
set_option linter.unusedVariables false
set_option linter.unnecessarySimpa false
namespace Go.Lx
open Go.RowKit
section
variable {P : Program} {base : World} {ρ : Env} {O : List Item} {dst : Option Nat} {t : TypeId} {p : String} {af : Array Edge} {g : Option (Nat × Bool)}
theorem wrapU64 {x : Nat} (h : x < 2 ^ 64) : IntKind.u64.wrap (x : Int) = (x : Int) := by
  simp only [IntKind.wrap, IntKind.signed, IntKind.bits]
  simp
  omega
inductive UK : IntKind → Prop
  | u8 : UK .u8
  | u64 : UK .u64
theorem UK.wrap {k : IntKind} (hk : UK k) {x : Nat} (h : x < 2 ^ k.bits) : k.wrap (x : Int) = (x : Int) := by
  cases hk
  · exact wrap8 (by simpa [IntKind.bits] using h)
  · exact wrapU64 (by simpa [IntKind.bits] using h)
theorem q_or {x y : Operand} {T U : TypeId} {k : IntKind} {a b : Nat} (hk : UK k) (hx : ev ρ x = .int k (a : Int)) (hy : ev ρ y = .int k (b : Int)) (ha : a < 2 ^ k.bits) (hb : b < 2 ^ k.bits) : QT P base ⟨dst, .binOp .or T x y U, t, p, af, g⟩ ρ O (.int k ((a ||| b : Nat) : Int)) := fun w _ => by
  have := hk.wrap (Nat.or_lt_two_pow ha hb)
  simp [execOp, hx, hy, eqGuard, binOp, Op.intBits, Nat.mod_eq_of_lt ha, Nat.mod_eq_of_lt hb, this]
theorem q_and {x y : Operand} {T U : TypeId} {k : IntKind} {a b : Nat} (hk : UK k) (hx : ev ρ x = .int k (a : Int)) (hy : ev ρ y = .int k (b : Int)) (ha : a < 2 ^ k.bits) (hb : b < 2 ^ k.bits) : QT P base ⟨dst, .binOp .and T x y U, t, p, af, g⟩ ρ O (.int k ((a &&& b : Nat) : Int)) := fun w _ => by
  have := hk.wrap (Nat.lt_of_le_of_lt (Nat.and_le_left (n := a) (m := b)) ha)
  simp [execOp, hx, hy, eqGuard, binOp, Op.intBits, Nat.mod_eq_of_lt ha, Nat.mod_eq_of_lt hb, this]
theorem q_shr {x y : Operand} {T U : TypeId} {k k' : IntKind} {a b : Nat} (hk : UK k) (hx : ev ρ x = .int k (a : Int)) (hy : ev ρ y = .int k' (b : Int)) (ha : a < 2 ^ k.bits) (hb : b ≤ k.bits) : QT P base ⟨dst, .binOp .shr T x y U, t, p, af, g⟩ ρ O (.int k ((a >>> b : Nat) : Int)) := fun w _ => by
  have h0 : ¬ (b : Int) < 0 := by omega
  have h1 : min (b : Int).toNat k.bits = b := by rw [Int.toNat_natCast]; exact Nat.min_eq_left hb
  have h2 : (a : Int).fdiv (2 ^ b) = ((a >>> b : Nat) : Int) := by
    rw [Nat.shiftRight_eq_div_pow, Int.fdiv_eq_ediv_of_nonneg _ (by exact Int.le_of_lt (Int.pow_pos (by decide)))]
    rw [Int.natCast_ediv, Int.natCast_pow]; rfl
  simp only [execOp, hx, hy, eqGuard, binOp, Op.shift, h0, if_false, h1, h2]
  simp
theorem q_shlU {x y : Operand} {T U : TypeId} {k k' : IntKind} {a b : Nat} (hk : UK k) (hx : ev ρ x = .int k (a : Int)) (hy : ev ρ y = .int k' (b : Int)) (hb : b ≤ k.bits) (h : a * 2 ^ b < 2 ^ k.bits) : QT P base ⟨dst, .binOp .shl T x y U, t, p, af, g⟩ ρ O (.int k ((a * 2 ^ b : Nat) : Int)) := fun w _ => by
  have h0 : ¬ (b : Int) < 0 := by omega
  have h1 : min (b : Int).toNat k.bits = b := by rw [Int.toNat_natCast]; exact Nat.min_eq_left hb
  have h2 : k.wrap ((a : Int) * 2 ^ b) = ((a * 2 ^ b : Nat) : Int) := by
    have := hk.wrap h
    rw [← this]; congr 1
  simp only [execOp, hx, hy, eqGuard, binOp, Op.shift, h0, if_false, h1, h2]
  simp
theorem q_subU {x y : Operand} {T U : TypeId} {k : IntKind} {a b : Nat} (hk : UK k) (hx : ev ρ x = .int k (a : Int)) (hy : ev ρ y = .int k (b : Int)) (ha : a < 2 ^ k.bits) (hb : b ≤ a) : QT P base ⟨dst, .binOp .sub T x y U, t, p, af, g⟩ ρ O (.int k ((a - b : Nat) : Int)) := by
  have h := q_sub (P := P) (base := base) (O := O) (dst := dst) (t := t) (p := p) (af := af) (g := g) (T := T) (U := U) hx hy
  rw [← Int.natCast_sub hb, hk.wrap (by omega)] at h
  exact h
theorem q_remN {x y : Operand} {T U : TypeId} {k : IntKind} {a b : Nat} (hx : ev ρ x = .int k (a : Int)) (hy : ev ρ y = .int k (b : Int)) (h0 : 0 < b) : QT P base ⟨dst, .binOp .rem T x y U, t, p, af, g⟩ ρ O (.int k ((a % b : Nat) : Int)) := by
  have h := q_rem (P := P) (base := base) (O := O) (dst := dst) (t := t) (p := p) (af := af) (g := g) (T := T) (U := U) hx hy (by omega)
  rw [Int.tmod_eq_emod_of_nonneg (by omega), ← Int.natCast_emod] at h
  exact h
theorem q_addN {x y : Operand} {T U : TypeId} {a b : Nat} (hx : ev ρ x = .int .i64 (a : Int)) (hy : ev ρ y = .int .i64 (b : Int)) (h : a + b ≤ 9223372036854775807) : QT P base ⟨dst, .binOp .add T x y U, t, p, af, g⟩ ρ O (.int .i64 ((a + b : Nat) : Int)) := by
  have := q_add64 (P := P) (base := base) (O := O) (dst := dst) (t := t) (p := p) (af := af) (g := g) (T := T) (U := U) hx hy (by omega)
  rwa [← Int.natCast_add] at this
theorem q_subN {x y : Operand} {T U : TypeId} {a b : Nat} (hx : ev ρ x = .int .i64 (a : Int)) (hy : ev ρ y = .int .i64 (b : Int)) (h : b ≤ a) (ha : a ≤ 9223372036854775807) : QT P base ⟨dst, .binOp .sub T x y U, t, p, af, g⟩ ρ O (.int .i64 ((a - b : Nat) : Int)) := by
  have := q_sub64 (P := P) (base := base) (O := O) (dst := dst) (t := t) (p := p) (af := af) (g := g) (T := T) (U := U) hx hy (by omega)
  rwa [← Int.natCast_sub h] at this
theorem q_mulN {x y : Operand} {T U : TypeId} {a b : Nat} (hx : ev ρ x = .int .i64 (a : Int)) (hy : ev ρ y = .int .i64 (b : Int)) (h : a * b ≤ 9223372036854775807) : QT P base ⟨dst, .binOp .mul T x y U, t, p, af, g⟩ ρ O (.int .i64 ((a * b : Nat) : Int)) := by
  have := q_mul64 (P := P) (base := base) (O := O) (dst := dst) (t := t) (p := p) (af := af) (g := g) (T := T) (U := U) hx hy (by rw [← Int.natCast_mul]; omega)
  rwa [← Int.natCast_mul] at this
theorem q_maxN {x y : Operand} {ats : Array TypeId} {k k' : IntKind} {a b : Nat} (hx : ev ρ x = .int k (a : Int)) (hy : ev ρ y = .int k' (b : Int)) : QT P base ⟨dst, .call ⟨.builtin .max, #[x, y], ats⟩, t, p, af, g⟩ ρ O (.int k ((max a b : Nat) : Int)) := by
  have h := q_max (P := P) (base := base) (O := O) (dst := dst) (t := t) (p := p) (af := af) (g := g) (ats := ats) hx hy
  have e : (if (b : Int) > (a : Int) then (b : Int) else (a : Int)) = ((max a b : Nat) : Int) := by split <;> omega
  rwa [e] at h
theorem q_minN {x y : Operand} {ats : Array TypeId} {k k' : IntKind} {a b : Nat} (hx : ev ρ x = .int k (a : Int)) (hy : ev ρ y = .int k' (b : Int)) : QT P base ⟨dst, .call ⟨.builtin .min, #[x, y], ats⟩, t, p, af, g⟩ ρ O (.int k ((min a b : Nat) : Int)) := by
  have h := q_min (P := P) (base := base) (O := O) (dst := dst) (t := t) (p := p) (af := af) (g := g) (ats := ats) hx hy
  have e : (if (b : Int) < (a : Int) then (b : Int) else (a : Int)) = ((min a b : Nat) : Int) := by split <;> omega
  rwa [e] at h
def subB (b : Option Addr) (c lo k : Nat) : Option Addr := if c = lo then b else b.map (·.add (lo * k))
theorem subB_zero (b : Option Addr) (c k : Nat) : subB b c 0 k = b := by
  unfold subB
  split
  · rfl
  · rw [Nat.zero_mul]; cases b with
    | none => rfl
    | some a => simp [Addr.add]
theorem Sl.sub {w : World} {b : Option Addr} {cs : List Value} (h : Sl w b cs) (c lo k m : Nat) (hc : c = lo → (cs.drop (lo * k)).take m = []) : Sl w (subB b c lo k) ((cs.drop (lo * k)).take m) := fun i hi => by
  have hlt : lo * k + i < cs.length := by rw [List.length_take, List.length_drop] at hi; omega
  obtain ⟨⟨bk, o, sp⟩, h1, h2, h3⟩ := h _ hlt
  simp only at h2; subst h2
  have hne : c ≠ lo := fun e => by rw [hc e] at hi; simp at hi
  refine ⟨⟨bk, o + lo * k, none⟩, ?_, rfl, ?_⟩
  · unfold subB; rw [if_neg hne, h1]; simp [add_off]
  · simp only [List.getElem_take, List.getElem_drop]
    rw [show o + lo * k + i = o + (lo * k + i) by omega]; exact h3
theorem q_slice {x : Operand} {T E : TypeId} {b : Option Addr} {n c k by_ lo hi : Nat} {z : Value} {yl yh : Option Operand} {kl kh : IntKind} (hu : P.underlying T = some (.slice E)) (hi' : Inf P E z k by_) (hx : ev ρ x = .slice b n c)
    (hl : ∀ y, yl = some y → ev ρ y = .int kl (lo : Int)) (hl0 : yl = none → lo = 0) (hh : ∀ y, yh = some y → ev ρ y = .int kh (hi : Int)) (hh0 : yh = none → hi = n) (h1 : lo ≤ hi) (h2 : hi ≤ c) :
    QT P base ⟨dst, .slice T x yl yh none, t, p, af, g⟩ ρ O (.slice (subB b c lo k) (hi - lo) (c - lo)) := fun w _ => by
  have e1 : (lo : Int) ≤ (hi : Int) := by omega
  have e2 : (hi : Int) ≤ (c : Int) := by omega
  have e0 : (0 : Int) ≤ (lo : Int) := by omega
  have e3 : (0 : Int) ≤ (hi : Int) := by omega
  unfold subB
  have ed : c - lo = 0 ↔ c = lo := by omega
  cases yl with
  | none =>
    obtain rfl := hl0 rfl
    cases yh with
    | none =>
      obtain rfl := hh0 rfl
      by_cases hc0 : c = 0
      · simp [execOp, Instr.sliceAt, Instr.slice, hx, run_underlying' hu, run_sizeOf' hi', Instr.sliceBounds, hc0]
      · simp [execOp, Instr.sliceAt, Instr.slice, hx, run_underlying' hu, run_sizeOf' hi', Instr.sliceBounds, hc0]
    | some y =>
      have := hh y rfl
      by_cases hc0 : c = 0
      · simp [execOp, Instr.sliceAt, Instr.slice, hx, this, run_underlying' hu, run_sizeOf' hi', Instr.sliceBounds, Instr.sliceBound, asIntOf, e2, e3, hc0, h2]
        omega
      · simp [execOp, Instr.sliceAt, Instr.slice, hx, this, run_underlying' hu, run_sizeOf' hi', Instr.sliceBounds, Instr.sliceBound, asIntOf, e2, e3, hc0, h2]
  | some y' =>
    have hl' := hl y' rfl
    cases yh with
    | none =>
      obtain rfl := hh0 rfl
      by_cases hc0 : c = lo
      · simp [execOp, Instr.sliceAt, Instr.slice, hx, hl', run_underlying' hu, run_sizeOf' hi', Instr.sliceBounds, Instr.sliceBound, asIntOf, e1, e0, hc0, h1]
      · simp [execOp, Instr.sliceAt, Instr.slice, hx, hl', run_underlying' hu, run_sizeOf' hi', Instr.sliceBounds, Instr.sliceBound, asIntOf, e1, e0, hc0, h1]
    | some y =>
      have := hh y rfl
      by_cases hc0 : c = lo
      · simp [execOp, Instr.sliceAt, Instr.slice, hx, hl', this, run_underlying' hu, run_sizeOf' hi', Instr.sliceBounds, Instr.sliceBound, asIntOf, e1, e0, e2, e3, hc0, h1, h2]
        intro; omega
      · simp [execOp, Instr.sliceAt, Instr.slice, hx, hl', this, run_underlying' hu, run_sizeOf' hi', Instr.sliceBounds, Instr.sliceBound, asIntOf, e1, e0, e2, e3, hc0, h1, h2]
theorem q_sliceTo {x y : Operand} {T E : TypeId} {b : Option Addr} {n c k by_ hi : Nat} {z : Value} {kh : IntKind} (hu : P.underlying T = some (.slice E)) (hi' : Inf P E z k by_) (hx : ev ρ x = .slice b n c) (hh : ev ρ y = .int kh (hi : Int)) (h2 : hi ≤ c) :
    QT P base ⟨dst, .slice T x none (some y) none, t, p, af, g⟩ ρ O (.slice b hi c) := by
  have := q_slice (P := P) (base := base) (O := O) (dst := dst) (t := t) (p := p) (af := af) (g := g) (lo := 0) (kl := .i64) hu hi' hx (yl := none) (yh := some y) (fun _ h => by cases h) (fun _ => rfl) (fun _ h => by cases h; exact hh) (fun h => by cases h) (Nat.zero_le _) h2
  rwa [subB_zero, Nat.sub_zero, Nat.sub_zero] at this
theorem q_sliceFrom {x y : Operand} {T E : TypeId} {b : Option Addr} {n c k by_ lo : Nat} {z : Value} {kl : IntKind} (hu : P.underlying T = some (.slice E)) (hi' : Inf P E z k by_) (hx : ev ρ x = .slice b n c) (hh : ev ρ y = .int kl (lo : Int)) (h1 : lo ≤ n) (h2 : n ≤ c) :
    QT P base ⟨dst, .slice T x (some y) none none, t, p, af, g⟩ ρ O (.slice (subB b c lo k) (n - lo) (c - lo)) :=
  q_slice (kh := .i64) hu hi' hx (fun _ h => by cases h; exact hh) (fun h => by cases h) (fun _ h => by cases h) (fun _ => rfl) h1 h2
end
section
variable {P : Program} {r : Option Nat} {base : World} {n : Nat} {ρ : Env} {O : List Item} {K : Env → List Item → Prop} {d : Nat} {t : TypeId} {p : String} {af : Array Edge} {g : Option (Nat × Bool)}
theorem rowP.head {b : Option Addr} {c k : Nat} {T : TypeId} {cs : List Value} {w : World} (h : rowP b c T k cs w) (m : Nat) : rowP b c T k (cs.take m) w := by
  cases b with
  | none => obtain ⟨rfl, rfl⟩ := h; exact ⟨by simp, rfl⟩
  | some a =>
    obtain ⟨h1, full, h2, h3, h4, h5⟩ := h
    refine ⟨h1, full, h2, by rw [List.length_take]; omega, h4, fun i hi => ?_⟩
    have hi' : i < cs.length := by rw [List.length_take] at hi; omega
    rw [List.getElem_take]; exact h5 i hi'
theorem Inv.head {w : World} {i : Nat} {b : Option Addr} {c k : Nat} {T : TypeId} {cs : List Value} (hI : Inv base O w) (hO : O[i]? = some (rowI b c T k cs)) (m : Nat) : Inv base (O.set i (rowI b c T k (cs.take m))) w :=
  hI.weaken hO (by simp [rowI]) (fun h => h.head m)
theorem l_head (i : Nat) {x y : Operand} {T E : TypeId} {b : Option Addr} {n' c k by_ m : Nat} {z : Value} {kk : IntKind} {cs : List Value} (hu : P.underlying T = some (.slice E)) (hi : Inf P E z k by_) (hx : ev ρ x = .slice b n' c) (hy : ev ρ y = .int kk (m : Int))
    (hO : O[i]? = some (rowI b c E k cs)) (hm : m ≤ c)
    (h : K (upd ρ d (.slice b m c)) (O.set i (rowI b c E k (cs.take (m * k))))) (hn : Nat.blt d n = true := by rfl) : LT P r base n ⟨some d, .slice T x none (some y) none, t, p, af, g⟩ ρ O K :=
  LT.of_run hn fun w M hI => ⟨_, w, _, q_sliceTo hu hi hx hy hm w hI.left, by rw [← set_app hO]; exact hI.head (at_app hO) _, h⟩
end
theorem T.loopS {P : Program} {r : Option Nat} {base : World} {n : Nat} {Q : Post} {ρ : Env} {O : List Item} {c : Code} {α : Type} (I : α → Env → List Item → Prop) (μ : α → Nat) (s : α) (h0 : I s ρ O)
    (h : ∀ s ρ O, I s ρ O → T P r base n c (thn (fun ρ' O' => ∃ s', μ s' < μ s ∧ ∃ O2, Sub O2 O' ∧ I s' ρ' O2) Q) ρ O) : T P r base n (.loop c) Q ρ O :=
  T.loop (fun s ρ O => ∃ O2, Sub O2 O ∧ I s ρ O2) μ s ⟨O, Sub.of (List.Sublist.refl _), h0⟩ (fun s ρ O ⟨O2, hs, hi⟩ => T.sub hs (h s ρ O2 hi))
theorem run_loadBox1 {P : Program} {T E : TypeId} {d : TypeDesc} {b : Nat} {v : Value} {cs : List Value} {fr : Nat × Nat} {w : World} (hu : P.underlying T = some d) (ha : aggB d = false) (hw : w.heap[b]? = some (.cells (v :: cs).toArray E fr)) :
    (loadVar T ⟨b, 0, none⟩).run P w = .ok v w := by
  have hc : w.cell? ⟨b, 0, none⟩ = some v := by unfold World.cell?; simp [hw]
  simp [loadVar, run_isAgg' hu, ha, hc]
theorem Res.cell2s {P : Program} {base : World} {ρ : Env} {O : List Item} {fn : Func} {R : Value → List Item → Prop} {a i c j : Nat} {T U E E' : TypeId} {d d' : TypeDesc} {b b' : Nat} {v u : Value} {cs cs' : List Value} {fr fr' : Nat × Nat} (hr : fn.results = #[.cell a T, .cell c U]) (hu : P.underlying T = some d) (ha : aggB d = false) (hu' : P.underlying U = some d') (ha' : aggB d' = false)
    (hp : ρ a = .pointer (some ⟨b, 0, none⟩)) (hp' : ρ c = .pointer (some ⟨b', 0, none⟩)) (hO : O[i]? = some (objI b (.cells (v :: cs).toArray E fr))) (hO' : O[j]? = some (objI b' (.cells (u :: cs').toArray E' fr')))
    (h : R (.tuple #[v, u]) O) : Res P base fn ρ O R :=
  ⟨⟨_, O, Sub.of (List.Sublist.refl _), h, fun w tmps hI ht => by
    have h1 := run_loadBox1 (P := P) hu ha (hI.objAt hO)
    have h2 := run_loadBox1 (P := P) hu' ha' (hI.objAt hO')
    have ht' := ht a
    have hc := ht c
    simp only [Array.getD_eq_getD_getElem?] at ht' hc
    simp [results, hr, ht', hc, hp, hp', asAddr, h1, h2]⟩⟩
structure EdgeT (P : Program) (kt : TypeId) (f1 f2 f3 f4 : Field) : Prop where
  under : P.underlying kt = some (.struct #[f1, f2, f3, f4])
  u1 : P.underlying f1.type = some (.int .i64)
  u2 : P.underlying f2.type = some (.int .i64)
  u3 : P.underlying f3.type = some (.int .u8)
  u4 : P.underlying f4.type = some (.int .u8)
  o1 : f1.offset = 0
  o2 : f2.offset = 1
  o3 : f3.offset = 2
  o4 : f4.offset = 3
  n1 : f1.name ≠ "_"
  n2 : f2.name ≠ "_"
  n3 : f3.name ≠ "_"
  n4 : f4.name ≠ "_"
  held : P.stoodInHeld kt = false
  guard : P.eqGuardType P.depth kt = false
theorem run_equal_intK {P : Program} {T : TypeId} {k k' : IntKind} (h : P.underlying T = some (.int k)) (d : Nat) (a b : Int) (w : World) : (Op.equalIn (d + 1) T (.int k' a) (.int k' b)).run P w = .ok (a == b) w := by
  rw [Op.equalIn]
  simp [run_underlying' h]
theorem EdgeT.equal {P : Program} {kt : TypeId} {f1 f2 f3 f4 : Field} (h : EdgeT P kt f1 f2 f3 f4) (a b c e a' b' c' e' : Int) (w : World) :
    (Op.equal kt (.agg #[.int .i64 a, .int .i64 b, .int .u8 c, .int .u8 e]) (.agg #[.int .i64 a', .int .i64 b', .int .u8 c', .int .u8 e'])).run P w = .ok (decide (a = a' ∧ b = b' ∧ c = c' ∧ e = e')) w := by
  show (Op.equalIn (9998 + 1 + 1) kt _ _).run P w = _
  rw [Op.equalIn]
  have p1 : ∀ (a b c e : Int), (part f1.type #[.int .i64 a, .int .i64 b, .int .u8 c, .int .u8 e] f1.offset).run P w = .ok (.int .i64 a) w := fun a b c e => by simp [part, run_isAgg' h.u1, aggB, h.o1]
  have p2 : ∀ (a b c e : Int), (part f2.type #[.int .i64 a, .int .i64 b, .int .u8 c, .int .u8 e] f2.offset).run P w = .ok (.int .i64 b) w := fun a b c e => by simp [part, run_isAgg' h.u2, aggB, h.o2]
  have p3 : ∀ (a b c e : Int), (part f3.type #[.int .i64 a, .int .i64 b, .int .u8 c, .int .u8 e] f3.offset).run P w = .ok (.int .u8 c) w := fun a b c e => by simp [part, run_isAgg' h.u3, aggB, h.o3]
  have p4 : ∀ (a b c e : Int), (part f4.type #[.int .i64 a, .int .i64 b, .int .u8 c, .int .u8 e] f4.offset).run P w = .ok (.int .u8 e) w := fun a b c e => by simp [part, run_isAgg' h.u4, aggB, h.o4]
  simp [run_underlying' h.under, h.held, h.n1, h.n2, h.n3, h.n4, p1, p2, p3, p4, run_equal_intK h.u1, run_equal_intK h.u2, run_equal_intK h.u3, run_equal_intK h.u4]
  by_cases e1 : a = a'
  · by_cases e2 : b = b'
    · by_cases e3 : c = c'
      · by_cases e4 : e = e'
        · simp [e1, e2, e3, e4]
        · simp [e1, e2, e3, e4]
      · simp [e1, e2, e3]
    · simp [e1, e2]
  · simp [e1]
section
variable {P : Program} {base : World} {ρ : Env} {O : List Item} {dst : Option Nat} {t : TypeId} {p : String} {af : Array Edge} {g : Option (Nat × Bool)}
theorem EdgeT.pre {kt : TypeId} {f1 f2 f3 f4 : Field} (h : EdgeT P kt f1 f2 f3 f4) (op : BinOp) (x y : Operand) (a b : Array Value) (w : World) : (eqGuard op kt x y (.agg a) (.agg b)).run P w = .ok () w := by
  unfold eqGuard
  cases op <;> simp [h.guard]
def EdgeX (P : Program) (kt : TypeId) : Prop := ∃ f1 f2 f3 f4, EdgeT P kt f1 f2 f3 f4
theorem q_edgeEql {x y : Operand} {kt U : TypeId} {a b c e a' b' c' e' : Int} (h : EdgeX P kt) (hx : ev ρ x = .agg #[.int .i64 a, .int .i64 b, .int .u8 c, .int .u8 e]) (hy : ev ρ y = .agg #[.int .i64 a', .int .i64 b', .int .u8 c', .int .u8 e']) :
    QT P base ⟨dst, .binOp .eql kt x y U, t, p, af, g⟩ ρ O (.bool (decide (a = a' ∧ b = b' ∧ c = c' ∧ e = e'))) := fun w _ => by
  obtain ⟨_, _, _, _, h⟩ := h
  simp only [execOp, hx, hy]
  simp [h.pre, binOp, h.equal]
end
end Go.Lx


namespace Go.Lx
open Go.RowKit
set_option linter.unusedVariables false
section
variable {P : Program} {r : Option Nat} {base : World} {n : Nat} {ρ : Env} {O : List Item} {K : Env → List Item → Prop} {d : Nat} {t : TypeId} {p : String} {af : Array Edge} {g : Option (Nat × Bool)}
theorem q_cap {x : Operand} {T : TypeId} {E : TypeId} {b : Option Addr} {m c : Nat} {dst : Option Nat} (hu : P.underlying T = some (.slice E)) (hx : ev ρ x = .slice b m c) :
    QT P base ⟨dst, .call ⟨.builtin .cap, #[x], #[T]⟩, t, p, af, g⟩ ρ O (.int .i64 (c : Int)) := fun w _ => by
  simp [execOp, resolve, hx, invoke, builtin, Builtin.cap_, run_underlying' hu, goInt]
theorem l_appendZ {T U E : TypeId} {m by_ : Nat} {x y : Operand} {z : Value} {k : IntKind} (hu : P.underlying T = some (.slice E)) (hxu : P.underlying U = some (.int .i64)) (hi : Inf P E z 1 by_) (hz : z.cells = #[z])
    (hx : ev ρ x = .slice none 0 0) (hy : ev ρ y = .int k (m : Int)) (hm : 0 < m) (hsz : m * by_ ≤ 70368744177664) (hby : by_ ≤ 1000000) (hsz' : 0 < by_)
    (h : ∀ b' c', m ≤ c' → K (upd ρ d (.slice b' m c')) (rowI b' c' E 1 (List.replicate m z) :: O)) (hn : Nat.blt d n = true := by rfl) :
    LT P r base n ⟨some d, .call ⟨.builtin .append, #[x, y], #[T, U]⟩, t, p, af, g⟩ ρ O K :=
  LT.of_run hn fun w M hI => by
    obtain ⟨i, hi1, hi2, hi3, hi4⟩ := hi.get
    obtain ⟨cap, hcap⟩ : ∃ cap, (Question.appendCap m 0 E).cut (w.tape w.drawn (Question.appendCap m 0 E)) = cap := ⟨_, rfl⟩
    have hle : m ≤ cap := hcap ▸ cut_cap m 0 _ E
    have hforced : (Question.appendCap m 0 E).forced = false := rfl
    have hI' : Inv base (O ++ M) w.drew := hI.drew
    have hmb : m ≤ 70368744177664 := Nat.le_trans (Nat.le_mul_of_pos_right m hsz') hsz
    have hw : IntKind.i64.wrap (m : Int) = (m : Int) := wrap64_id (by omega)
    have hnext : ¬ (281474976710656 < Builtin.nextslicecap m 0 * by_) := by
      have h1 := nextcap_le (need := m) (cap := 0) hm
      have h2 : Builtin.nextslicecap m 0 * by_ ≤ (2 * m + 192) * by_ := Nat.mul_le_mul_right _ h1
      have h3 : (2 * m + 192) * by_ = 2 * (m * by_) + 192 * by_ := by rw [Nat.add_mul, Nat.mul_assoc]
      omega
    have hbig : ¬ ((281474976710656 : Int) < (m : Int) * (by_ : Int)) := by
      have : ((m * by_ : Nat) : Int) = (m : Int) * (by_ : Int) := Int.natCast_mul _ _
      rw [← this]; omega
    have hm0 : ¬ m = 0 := by omega
    have hm1 : ¬ (m : Int) < 0 := by omega
    have hmax : ¬ ((9223372036854775807 : Int) < (m : Int)) := by omega
    have hmx : max (m : Int) 0 = (m : Int) := by omega
    have hle0 : ¬ (m : Int) ≤ 0 := by omega
    have hzc : Builtin.zeroCells z.cells m = (List.replicate m z).toArray := by
      unfold Builtin.zeroCells; rw [hz]
      have := zeros_one z m
      simpa using this
    have hzr : (m * z.cells.size) = m := by rw [hz]; simp
    refine ⟨.slice (some ⟨w.heap.size, 0, none⟩) m cap, w.drew.alloc (.cells ((List.replicate m z).toArray ++ Builtin.zeroCells z.cells (cap - m)) E), _, ?_, ?_, h (some ⟨w.heap.size, 0, none⟩) cap hle⟩
    · simp [execOp, resolve, hx, hy, invoke, builtin, Builtin.append_, run_underlying' hu, run_underlying' hxu, run_sizeOf' hi, asInt, asIntOf, hw, hm1, hmx, hle0, hbig, run_typeInfo' hi1, hi4, hm0, hmax, hnext, hforced, hcap, Builtin.firstCells, run_zeroValue' hi, hzc, newRow]
    · refine Inv.new (O := O ++ M) (N := [rowI (some ⟨w.heap.size, 0, none⟩) cap E 1 (List.replicate m z)]) hI rfl rfl rfl (by simp) (fun b hb => ?_) ?_ ?_ (by simp [rowI])
      · show (w.heap.push _)[b]? = _
        rw [Array.getElem?_push, if_neg (by omega)]
      · intro x hx
        simp at hx; subst hx
        refine ⟨rfl, (List.replicate m z).toArray ++ Builtin.zeroCells z.cells (cap - m), ?_, by simp; exact hle, ?_, fun q hq => ?_⟩
        · show (w.heap.push _)[w.heap.size]? = _; simp
        · simp only [Array.size_append, List.size_toArray, List.length_replicate, zeros_any, hz, Nat.zero_add]
          simp; omega
        · simp only [List.length_replicate] at hq
          simp only [Nat.zero_add]
          rw [Array.getElem?_append_left (by simpa using hq)]
          simp [hq]
      · intro x hx b hb
        simp at hx; subst hx
        simp [rowI] at hb; subst hb
        exact ⟨Nat.le_refl _, by simp⟩
theorem LT.of_val0 {op : Op}
    (h : ∀ w M, Inv base (O ++ M) w → ∃ v w' O', (execOp (ev ρ) ⟨none, op, t, p, af, g⟩).run P w = .ok (.value v) w' ∧ Inv base (O' ++ M) w' ∧ K ρ O') : LT P r base n ⟨none, op, t, p, af, g⟩ ρ O K := by
  intro a w M ds ha hi next Qx hnext
  obtain ⟨v, w', O', hr, hI, hK⟩ := h w M hi
  rw [← ha.eval] at hr
  refine wpIn_Fr (notDefer hr (by simp)) ?_
  rw [hr]
  exact hnext _ _ _ _ ha hI hK
theorem l_clear (i : Nat) {T E : TypeId} {x : Operand} {b : Option Addr} {c lo by_ : Nat} {z : Value} {cs : List Value} (hu : P.underlying T = some (.slice E)) (hi : Inf P E z 1 by_) (hz : z.cells = #[z]) (hone : oneB z = true)
    (hx : ev ρ x = .slice (subB b c lo 1) (cs.length - lo) (c - lo)) (hO : O[i]? = some (rowI b c E 1 cs)) (hlo : lo ≤ cs.length)
    (h : K ρ (O.set i (rowI b c E 1 (cs.take lo)))) : LT P r base n ⟨none, .call ⟨.builtin .clear, #[x], #[T]⟩, t, p, af, g⟩ ρ O K :=
  LT.of_val0 fun w M hI => by
    have hrow := hI.row (at_app hO)
    have hweak : Inv base ((O.set i (rowI b c E 1 (cs.take lo))) ++ M) w := by rw [← set_app hO]; exact hI.head (at_app hO) lo
    by_cases h0 : cs.length - lo = 0
    · refine ⟨.tuple #[], w, _, ?_, hweak, h⟩
      rw [h0] at hx
      cases hb : subB b c lo 1 with
      | none => rw [hb] at hx; simp [execOp, resolve, hx, invoke, builtin, Builtin.clear_, run_underlying' hu]
      | some a => rw [hb] at hx; simp [execOp, resolve, hx, invoke, builtin, Builtin.clear_, run_underlying' hu]
    · cases b with
      | none => obtain ⟨rfl, _⟩ := hrow; simp at h0
      | some a =>
        obtain ⟨bk, o, sp⟩ := a
        obtain ⟨hsp, full, hb, h1, h2, h3⟩ := hrow
        simp only at hsp hb h1 h2 h3
        subst hsp
        have hne : c ≠ lo := by omega
        have hsub : subB (some ⟨bk, o, none⟩) c lo 1 = some ⟨bk, o + lo, none⟩ := by
          unfold subB; rw [if_neg hne]; simp [add_off]
        rw [hsub] at hx
        obtain ⟨fl, rfl⟩ : ∃ fl : List Value, full = fl.toArray := ⟨full.toList, by simp⟩
        simp only [List.size_toArray] at h2
        have hst := storeCells_run (P := P) (b := bk) (o := o + lo) (T := E) (List.replicate (cs.length - lo) z) fl 0 w hb (by simp; omega) (by simp [hone])
        have hzc : (Builtin.zeroCells z.cells (cs.length - lo)).toList = List.replicate (cs.length - lo) z := by
          have h9 := congrArg Array.toList (zeros_one z (cs.length - lo))
          unfold Builtin.zeroCells; rw [hz]
          simp at h9 ⊢
          exact h9
        refine ⟨.tuple #[], setB w bk (.cells (putL fl (o + lo + 0) (List.replicate (cs.length - lo) z)).toArray E (0, 0)), _, ?_, ?_, h⟩
        · obtain ⟨q, hq⟩ : ∃ q, cs.length - lo = q + 1 := ⟨cs.length - lo - 1, by omega⟩
          simp [execOp, resolve, hx, invoke, builtin, Builtin.clear_, run_underlying' hu, run_zeroValue' hi]
          rw [hq] at hzc hst ⊢
          simp [hzc, hst]
        · rw [← set_app hO]
          refine hI.setRow (at_app hO) (cs' := cs.take lo) (by simp; omega) (by simp [putL_length]; omega) ?_
          intro j hj
          simp only [List.length_take] at hj
          have e1 : (putL fl (o + lo + 0) (List.replicate (cs.length - lo) z)).toArray[o + j]? = (putL fl (o + lo) (List.replicate (cs.length - lo) z))[o + j]? := by simp
          rw [e1, putL_get _ fl (o + lo) (o + j) (by simp; omega), if_neg (by omega), List.getElem_take]
          have := h3 j (by omega)
          simpa using this
end
theorem NextT.reorder {P : Program} {base : World} {M : List Item} {R : Value → List Item → Prop} {x : Result Next} (h : NextT P base M (fun v O' => ∃ O2, Sub O2 O' ∧ R v O2) x) : NextT P base M R x := by
  cases x with
  | halt e w => exact h
  | ok y w =>
    cases y with
    | enter f args => exact Calls.mono h (fun e w' ⟨v, O', h1, h2, O2, hs, hr⟩ => ⟨v, O2, h1, h2.subp hs.app, hr⟩)
    | round l f tmps assign body => exact RoundIn.mono h (fun e w' ⟨v, O', h1, h2, O2, hs, hr⟩ => ⟨v, O2, h1, h2.subp hs.app, hr⟩)
    | _ => exact h
theorem CallV.reorder {P : Program} {base : World} {fv : Value} {args : List Value} {O : List Item} {R : Value → List Item → Prop} (h : CallV P base fv args O (fun v O' => ∃ O2, Sub O2 O' ∧ R v O2)) : CallV P base fv args O R := fun w M hI => (h w M hI).reorder
theorem sub_swap {A B : List Item} : Sub (A ++ B) (B ++ A) := ⟨_, List.perm_append_comm, List.Sublist.refl _⟩
theorem CallV.atR {P : Program} {base : World} {fv : Value} {args : List Value} {A : List Item} (B : List Item) {R : Value → List Item → Prop} (h : CallV P base fv args A R) : CallV P base fv args (B ++ A) (fun v O' => ∃ A', O' = B ++ A' ∧ R v A') :=
  ((h.under (B := B) sub_swap).mono (fun v O' ⟨A', e, hr⟩ => ⟨B ++ A', by rw [e]; exact sub_swap, A', rfl, hr⟩)).reorder
theorem Inv.right {base : World} {A B : List Item} {w : World} (h : Inv base (A ++ B) w) : Inv base B w := h.sub (List.sublist_append_right _ _)
def WordsR (w : World) (vs : List Value) (ws : List (List Nat)) : Prop :=
  vs.length = ws.length ∧ ∀ (i : Nat) (r : List Nat), ws[i]? = some r → ∃ b c, vs[i]? = some (Value.slice b r.length c) ∧ Sl w b (byts r)
theorem WordsR.get {w : World} {vs : List Value} {ws : List (List Nat)} (h : WordsR w vs ws) {i : Nat} (hi : i < ws.length) : ∃ b c, vs[i]? = some (Value.slice b ws[i].length c) ∧ Sl w b (byts ws[i]) :=
  h.2 i _ (List.getElem?_eq_getElem hi)
theorem WordsR.keep {w w' : World} {vs : List Value} {ws : List (List Nat)} (h : WordsR w vs ws) (hb : ∀ k, k < w.heap.size → w'.heap[k]? = w.heap[k]?) : WordsR w' vs ws :=
  ⟨h.1, fun i r hr => by obtain ⟨b, c, h1, h2⟩ := h.2 i r hr; exact ⟨b, c, h1, h2.keep hb⟩⟩
theorem flat_take {ws : List (List Nat)} {k : Nat} (hk : k < ws.length) : (ws.take (k + 1)).flatten = (ws.take k).flatten ++ ws[k] := by
  rw [List.take_succ_eq_append_getElem hk, List.flatten_append]; simp
theorem flat_le {ws : List (List Nat)} (k : Nat) : (ws.take k).flatten.length ≤ ws.flatten.length := by
  conv => rhs; rw [← List.take_append_drop k ws, List.flatten_append]
  simp
theorem WordsR.two {w : World} {b1 b2 : Option Addr} {c1 c2 n1 n2 : Nat} {r1 r2 : List Nat} (h1 : Sl w b1 (byts r1)) (h2 : Sl w b2 (byts r2)) (e1 : r1.length = n1) (e2 : r2.length = n2) : WordsR w [.slice b1 n1 c1, .slice b2 n2 c2] [r1, r2] := by
  refine ⟨rfl, fun i r hr => ?_⟩
  match i with
  | 0 => simp at hr; subst hr; exact ⟨b1, c1, by rw [e1]; rfl, h1⟩
  | 1 => simp at hr; subst hr; exact ⟨b2, c2, by rw [e2]; rfl, h2⟩
  | i + 2 => simp at hr
theorem Sl.bsub {w : World} {b : Option Addr} {xs : List Nat} (h : Sl w b (byts xs)) {c lo hi : Nat} (hc : xs.length ≤ c) (hlo : lo < hi) (hhi : hi ≤ xs.length) : Sl w (subB b c lo 1) (byts ((xs.take hi).drop lo)) := by
  have h1 := h.sub c lo 1 (hi - lo) (fun e => by omega)
  rw [Nat.mul_one, ← List.map_drop, ← List.map_take] at h1
  rwa [List.drop_take]
theorem Sl.btake {w : World} {b : Option Addr} {xs : List Nat} (h : Sl w b (byts xs)) (m : Nat) : Sl w b (byts (xs.take m)) := fun i hi => by
  have hi' : i < xs.length := by rw [List.length_map, List.length_take] at hi; omega
  obtain ⟨a, h1, h2, h3⟩ := h i (by simpa using hi')
  exact ⟨a, h1, h2, by rw [h3]; simp⟩
end Go.Lx


namespace Go.Lx
open Go.RowKit
set_option linter.unusedVariables false
theorem CallV.pick {P : Program} {base : World} {fv : Value} {args : List Value} {x : Value} (is : List Nat) (L R A : List Item) (hA : pickL is L = A) (h : CallV P base fv args A (fun v O' => v = x ∧ O' = A)) : CallV P base fv args (L ++ R) (fun v O' => v = x ∧ O' = L ++ R) := by
  subst hA
  have hp : (pickL is L ++ (restL is L ++ R)).Perm (L ++ R) := by
    rw [← List.append_assoc]; exact (pick_perm is L).append_right R
  exact ((h.under (B := restL is L ++ R) (Sub.of_perm (D := []) (by simpa using hp))).mono (fun v O' ⟨A', e, hv, ha⟩ => ⟨L ++ R, by rw [e, ha]; exact Sub.of_perm (D := []) (by simpa using hp.symm), hv, rfl⟩)).reorder
theorem q_field {P : Program} {base : World} {ρ : Env} {O : List Item} {dst : Option Nat} {t : TypeId} {p : String} {af : Array Edge} {g : Option (Nat × Bool)} {x : Operand} {S : TypeId} {fs : Array Field} {i : Nat} {f : Field} {cs : List Value} {d : TypeDesc} {v : Value} (hu : P.underlying S = some (.struct fs)) (hf : fs[i]? = some f) (hd : P.underlying f.type = some d) (ha : aggB d = false) (hx : ev ρ x = .agg cs.toArray) (hv : cs[f.offset]? = some v) :
    QT P base ⟨dst, .field S x i, t, p, af, g⟩ ρ O v := fun w _ => by
  simp [execOp, hx, Instr.field, run_underlying' hu, hf, part, run_isAgg' hd, ha, asAgg, hv]
theorem Src.own {P : Program} {base : World} {O : List Item} {b : Option Addr} {c k m : Nat} {cs : List Value} (h : ∀ w, Inv base O w → Sl w b cs) (hl : cs.length = m * k) : Src P base O k m (.slice b m c) cs :=
  ⟨hl, fun w => by simp [Builtin.lenOf], fun w hI => firstCells_run (h w hI) hl (fun e => by
    cases cs with
    | nil => rfl
    | cons v cs => obtain ⟨a, h1, _⟩ := h w hI 0 (by simp); rw [e] at h1; cases h1)⟩
section
variable {P : Program} {r : Option Nat} {base : World} {n : Nat} {ops : Array Oper} {S S2 : List Item} {tail tail2 : List Nat} {K : Env → List Item → Prop} {ρ : Env} {O : List Item}
end
end Go.Lx


namespace Go.Lx
open Go.RowKit
set_option linter.unusedVariables false
section
variable {P : Program} {r : Option Nat} {base : World} {n : Nat} {ops : Array Oper} {S S2 : List Item} {tail tail2 : List Nat} {K : Env → List Item → Prop} {ρ : Env} {O : List Item}
end
theorem Sub.k {A B : List Item} {a : Item} (h : Sub A B) : Sub (a :: A) (a :: B) := by
  obtain ⟨l, h1, h2⟩ := h; exact ⟨a :: l, h1.cons a, .cons_cons a h2⟩
theorem Sub.d {A B : List Item} {a : Item} (h : Sub A B) : Sub A (a :: B) := by
  obtain ⟨l, h1, h2⟩ := h; exact ⟨l, h1, .cons a h2⟩
theorem Sub.z {B : List Item} : Sub [] B := Sub.of (List.nil_sublist _)
theorem Sub.rf {B : List Item} : Sub B B := Sub.of (List.Sublist.refl _)
theorem Sub.swap3 (A B S : List Item) : Sub ((A ++ B) ++ S) ((A ++ S) ++ B) := by
  refine ⟨(A ++ S) ++ B, ?_, List.Sublist.refl _⟩
  rw [List.append_assoc, List.append_assoc]
  exact List.Perm.append_left A List.perm_append_comm
theorem Sub.swap4 (A B S R : List Item) : Sub ((A ++ B) ++ (S ++ R)) ((A ++ S) ++ (B ++ R)) := by
  refine ⟨(A ++ S) ++ (B ++ R), ?_, List.Sublist.refl _⟩
  have h : (B ++ (S ++ R)).Perm (S ++ (B ++ R)) := by
    rw [← List.append_assoc, ← List.append_assoc]
    exact List.perm_append_comm.append_right R
  rw [List.append_assoc, List.append_assoc]
  exact List.Perm.append_left A h
theorem sub_perm {l B : List Item} (h : l.Sublist B) : ∃ D, (l ++ D).Perm B := by
  induction h with
  | slnil => exact ⟨[], List.Perm.refl _⟩
  | cons a _ ih => obtain ⟨D, hD⟩ := ih; exact ⟨a :: D, List.perm_middle.trans (hD.cons a)⟩
  | cons_cons a _ ih => obtain ⟨D, hD⟩ := ih; exact ⟨D, hD.cons a⟩
theorem Sub.perm {A B : List Item} (h : Sub A B) : ∃ D, (A ++ D).Perm B := by
  obtain ⟨l, p, s⟩ := h
  obtain ⟨D, hD⟩ := sub_perm s
  exact ⟨D, (p.append_right D).trans hD⟩
end Go.Lx


namespace Go.Lx
open Go.RowKit
set_option linter.unusedVariables false
theorem Sub.pull {xs : List Item} {x : Item} (P Q : List Item) (h : Sub xs (P ++ Q)) : Sub (x :: xs) (P ++ x :: Q) := by
  obtain ⟨D, p⟩ := h.perm
  refine Sub.of_perm (D := D) ?_
  exact (p.cons x).trans List.perm_middle.symm
example (a b c d e : Item) (R : List Item) : Sub ([c, a, e] ++ R) ([a, b, c, d, e] ++ R) := by exact Sub.pull [a, b] _ (.k (.d (.d (.k .rf))))
end Go.Lx


namespace Go.Lx
open Go.RowKit
end Go.Lx


namespace Go.Lx
inductive Rch (E : Nat → Nat → Prop) : Nat → Nat → Prop
  | refl (v : Nat) : Rch E v v
  | step {u v w : Nat} : E u v → Rch E v w → Rch E u w
section
variable {E : Nat → Nat → Prop}
theorem Rch.one {u v : Nat} (h : E u v) : Rch E u v := .step h (.refl _)
theorem Rch.trans {u v w : Nat} (h : Rch E u v) (h2 : Rch E v w) : Rch E u w := by
  induction h with
  | refl => exact h2
  | step e _ ih => exact .step e (ih h2)
theorem Rch.tail {u v w : Nat} (h : Rch E u v) (e : E v w) : Rch E u w := h.trans (.one e)
theorem Rch.closed {S : Nat → Prop} (hc : ∀ u v, S u → E u v → S v) {u v : Nat} (h : Rch E u v) (hu : S u) : S v := by
  induction h with
  | refl => exact hu
  | step e _ ih => exact ih (hc _ _ hu e)
theorem Rch.mono {F : Nat → Nat → Prop} (hf : ∀ u v, E u v → F u v) {u v : Nat} (h : Rch E u v) : Rch F u v := by
  induction h with
  | refl => exact .refl _
  | step e _ ih => exact .step (hf _ _ e) ih
theorem Rch.last {u v : Nat} (h : Rch E u v) : u = v ∨ ∃ w, Rch E u w ∧ E w v := by
  induction h with
  | refl => exact .inl rfl
  | @step a b c e _ ih =>
    rcases ih with rfl | ⟨w, h1, h2⟩
    · exact .inr ⟨a, .refl _, e⟩
    · exact .inr ⟨w, .step e h1, h2⟩
structure TS where
  idx : Nat → Nat
  low : Nat → Nat
  comp : Nat → Int
  stk : List Nat
  clk : Nat
  cnt : Nat
structure TInv (n : Nat) (E : Nat → Nat → Prop) (gray : List Nat) (s : TS) : Prop where
  clk : ∀ v, s.idx v ≤ s.clk
  inj : ∀ u v, s.idx u ≠ 0 → s.idx u = s.idx v → u = v
  vis : ∀ v, s.idx v ≠ 0 → v < n
  srt : s.stk.Pairwise (fun u v => s.idx u < s.idx v)
  mem : ∀ v, v ∈ s.stk ↔ s.idx v ≠ 0 ∧ s.comp v < 0
  cmp : ∀ v, 0 ≤ s.comp v → s.idx v ≠ 0 ∧ s.comp v < s.cnt
  clo : ∀ u v, 0 ≤ s.comp u → E u v → 0 ≤ s.comp v ∧ s.comp v ≤ s.comp u
  cls : ∀ u v, 0 ≤ s.comp u → s.comp u = s.comp v → Rch E u v
  gry : ∀ g ∈ gray, g ∈ s.stk
  dn : ∀ x ∈ s.stk, ∃ g ∈ gray, s.idx g ≤ s.idx x ∧ Rch E x g
  up : ∀ g ∈ gray, ∀ y ∈ s.stk, s.idx g ≤ s.idx y → Rch E g y
  blk : ∀ u v, s.idx u ≠ 0 → u ∉ gray → E u v → s.idx v ≠ 0
structure TExt (s s' : TS) (t : List Nat) : Prop where
  idx : ∀ x, s.idx x ≠ 0 → s'.idx x = s.idx x
  low : ∀ x, s.idx x ≠ 0 → s'.low x = s.low x
  comp : ∀ x, s.idx x ≠ 0 → s'.comp x = s.comp x
  stk : s'.stk = s.stk ++ t
  clk : s.clk ≤ s'.clk
  new : ∀ x, s.idx x = 0 → s'.idx x ≠ 0 → s.clk < s'.idx x
def VPost (E : Nat → Nat → Prop) (s s' : TS) (t : List Nat) (v : Nat) : Prop :=
  s'.idx v ≠ 0 ∧ ((s'.comp v < 0 ∧ (∃ y ∈ s'.stk, s'.idx y = s'.low v ∧ Rch E v y) ∧ ∀ x ∈ t, ∀ u, E x u → u ∈ s.stk → s'.low v ≤ s.idx u) ∨ (0 ≤ s'.comp v ∧ t = [] ∧ s'.low v = s'.idx v))
structure VLoop (n : Nat) (E : Nat → Nat → Prop) (gray : List Nat) (s0 : TS) (v : Nat) (nx : List Nat) (k : Nat) (s : TS) (t : List Nat) : Prop where
  inv : TInv n E (gray ++ [v]) s
  idx : ∀ x, s0.idx x ≠ 0 → s.idx x = s0.idx x
  low : ∀ x, s0.idx x ≠ 0 → s.low x = s0.low x
  comp : ∀ x, s0.idx x ≠ 0 → s.comp x = s0.comp x
  clk : s0.clk ≤ s.clk
  new : ∀ x, s0.idx x = 0 → s.idx x ≠ 0 → s0.clk < s.idx x
  v0 : s0.idx v = 0
  v1 : s.idx v = s0.clk + 1
  stk : s.stk = s0.stk ++ v :: t
  lowv : s.low v ≤ s.idx v
  wit : ∃ y ∈ s.stk, s.idx y = s.low v ∧ Rch E v y
  cross : ∀ x ∈ t, ∀ u, E x u → u ∈ s0.stk → s.low v ≤ s0.idx u
  done : ∀ u ∈ nx.take k, s.idx u ≠ 0 ∧ (u ∈ s0.stk → s.low v ≤ s0.idx u)
theorem VLoop.enter {n : Nat} {gray : List Nat} {s0 : TS} {v : Nat} {nx : List Nat} {low : Nat → Nat} {idx : Nat → Nat} {comp : Nat → Int} (h : TInv n E gray s0) (hv : s0.idx v = 0) (hn : v < n) (hg : ∀ g ∈ gray, Rch E g v)
    (hi : ∀ x, idx x = if x = v then s0.clk + 1 else s0.idx x) (hl : ∀ x, low x = if x = v then s0.clk + 1 else s0.low x) (hcv : s0.comp v < 0) (hc : ∀ x, comp x = s0.comp x) :
    VLoop n E gray s0 v nx 0 { idx := idx, low := low, comp := comp, stk := s0.stk ++ [v], clk := s0.clk + 1, cnt := s0.cnt } [] := by
  have hns : v ∉ s0.stk := fun hm => ((h.mem v).1 hm).1 hv
  have hne : ∀ x, s0.idx x ≠ 0 → x ≠ v := fun x hx e => hx (e ▸ hv)
  have hiv : idx v = s0.clk + 1 := by rw [hi]; simp
  have hio : ∀ x, s0.idx x ≠ 0 → idx x = s0.idx x := fun x hx => by rw [hi, if_neg (hne x hx)]
  have hix : ∀ x, idx x ≠ 0 → x = v ∨ s0.idx x ≠ 0 := fun x hx => by
    rw [hi] at hx; split at hx
    · exact .inl ‹_›
    · exact .inr hx
  refine { inv := ?_, idx := hio, low := fun x hx => by show low x = _; rw [hl, if_neg (hne x hx)], comp := fun x _ => hc x, clk := Nat.le_succ _, new := ?_, v0 := hv, v1 := hiv, stk := rfl, lowv := by show low v ≤ idx v; rw [hl, hi]; simp, wit := ⟨v, by simp, by show idx v = low v; rw [hl, hi]; simp, .refl _⟩, cross := by simp, done := by simp }
  · refine { clk := ?_, inj := ?_, vis := ?_, srt := ?_, mem := ?_, cmp := ?_, clo := ?_, cls := ?_, gry := ?_, dn := ?_, up := ?_, blk := ?_ }
    · intro x; show idx x ≤ s0.clk + 1; rw [hi]; split
      · omega
      · exact Nat.le_succ_of_le (h.clk x)
    · intro a b ha hab
      change idx a ≠ 0 at ha; change idx a = idx b at hab
      rcases hix a ha with rfl | ha'
      · by_cases e : b = a
        · exact e.symm
        · rw [hiv, hi b, if_neg e] at hab
          have := h.clk b; omega
      · rw [hio a ha'] at hab
        by_cases e : b = v
        · subst e; rw [hiv] at hab; have := h.clk a; omega
        · rw [hi b, if_neg e] at hab; exact h.inj a b ha' hab
    · intro x hx
      rcases hix x hx with rfl | hx
      · exact hn
      · exact h.vis x hx
    · show (s0.stk ++ [v]).Pairwise _
      rw [List.pairwise_append]
      refine ⟨h.srt.imp_of_mem fun {a b} ha hb hab => ?_, by simp, fun a ha b hb => ?_⟩
      · show idx a < idx b
        rw [hio a ((h.mem a).1 ha).1, hio b ((h.mem b).1 hb).1]; exact hab
      · simp at hb; subst hb
        show idx a < idx b
        rw [hio a ((h.mem a).1 ha).1, hiv]
        have := h.clk a; omega
    · intro x
      show x ∈ s0.stk ++ [v] ↔ idx x ≠ 0 ∧ comp x < 0
      rw [hc]
      constructor
      · intro hx
        rcases List.mem_append.1 hx with hx | hx
        · have := (h.mem x).1 hx; exact ⟨by rw [hio x this.1]; exact this.1, this.2⟩
        · simp at hx; subst hx; exact ⟨by rw [hiv]; omega, hcv⟩
      · rintro ⟨h1, h2⟩
        rcases hix x h1 with rfl | h1
        · simp
        · exact List.mem_append_left _ ((h.mem x).2 ⟨h1, h2⟩)
    · intro x hx
      change 0 ≤ comp x at hx; rw [hc] at hx
      show idx x ≠ 0 ∧ comp x < s0.cnt
      have := h.cmp x hx; rw [hc, hio x this.1]; exact this
    · intro a b ha hab
      change 0 ≤ comp a at ha
      show 0 ≤ comp b ∧ comp b ≤ comp a
      rw [hc] at ha; rw [hc, hc]; exact h.clo a b ha hab
    · intro a b ha hab
      change 0 ≤ comp a at ha; change comp a = comp b at hab
      rw [hc] at ha; rw [hc, hc] at hab; exact h.cls a b ha hab
    · intro g hgm
      show g ∈ s0.stk ++ [v]
      rcases List.mem_append.1 hgm with hgm | hgm
      · exact List.mem_append_left _ (h.gry g hgm)
      · exact List.mem_append_right _ hgm
    · intro x hx
      change x ∈ s0.stk ++ [v] at hx
      rcases List.mem_append.1 hx with hx | hx
      · obtain ⟨g, h1, h2, h3⟩ := h.dn x hx
        refine ⟨g, List.mem_append_left _ h1, ?_, h3⟩
        show idx g ≤ idx x
        rw [hio x ((h.mem x).1 hx).1, hio g ((h.mem g).1 (h.gry g h1)).1]; exact h2
      · simp at hx; subst hx
        exact ⟨x, by simp, Nat.le_refl _, .refl _⟩
    · intro g hgm y hy hle
      change y ∈ s0.stk ++ [v] at hy; change idx g ≤ idx y at hle
      rcases List.mem_append.1 hgm with hg1 | hgm
      · have hgs := h.gry g hg1
        rcases List.mem_append.1 hy with hy | hy
        · rw [hio g ((h.mem g).1 hgs).1, hio y ((h.mem y).1 hy).1] at hle
          exact h.up g hg1 y hy hle
        · obtain rfl : y = v := by simpa using hy
          exact hg g hg1
      · obtain rfl : g = v := by simpa using hgm
        rcases List.mem_append.1 hy with hy | hy
        · rw [hiv, hio y ((h.mem y).1 hy).1] at hle
          have := h.clk y; omega
        · obtain rfl : y = g := by simpa using hy
          exact .refl _
    · intro a b ha hga hab
      have hav : a ≠ v := fun e => hga (by simp [e])
      rcases hix a ha with e | ha
      · exact absurd e hav
      · have := h.blk a b ha (fun hm => hga (List.mem_append_left _ hm)) hab
        show idx b ≠ 0
        rw [hio b this]; exact this
  · intro x h0 h1
    rcases hix x h1 with rfl | h2
    · show s0.clk < idx x; rw [hiv]; omega
    · exact absurd h0 h2
theorem TInv.low {n : Nat} {gray : List Nat} {s : TS} (h : TInv n E gray s) (low : Nat → Nat) : TInv n E gray { s with low := low } :=
  { clk := h.clk, inj := h.inj, vis := h.vis, srt := h.srt, mem := h.mem, cmp := h.cmp, clo := h.clo, cls := h.cls, gry := h.gry, dn := h.dn, up := h.up, blk := h.blk }
theorem TInv.ext {n : Nat} {gray : List Nat} {s : TS} (h : TInv n E gray s) {idx : Nat → Nat} {low : Nat → Nat} {comp : Nat → Int} (hi : ∀ x, idx x = s.idx x) (hc : ∀ x, comp x = s.comp x) : TInv n E gray { s with low := low, idx := idx, comp := comp } := by
  obtain rfl : idx = s.idx := funext hi
  obtain rfl : comp = s.comp := funext hc
  exact h.low low
section
variable {n : Nat} {gray : List Nat} {s0 s : TS} {v : Nat} {nx : List Nat} {k : Nat} {t : List Nat}
theorem VLoop.vstk (h : VLoop n E gray s0 v nx k s t) : v ∈ s.stk := by rw [h.stk]; simp
theorem VLoop.old (h : VLoop n E gray s0 v nx k s t) (h0 : TInv n E gray s0) {x : Nat} (hx : x ∈ s0.stk) : s0.idx x ≠ 0 ∧ s.idx x = s0.idx x ∧ s.idx x < s.idx v := by
  have h1 := ((h0.mem x).1 hx).1
  refine ⟨h1, h.idx x h1, ?_⟩
  rw [h.idx x h1, h.v1]; have := h0.clk x; omega
theorem VLoop.tnew (h : VLoop n E gray s0 v nx k s t) {x : Nat} (hx : x ∈ t) : s.idx v < s.idx x := by
  have := h.inv.srt; rw [h.stk, List.pairwise_append] at this
  have := this.2.1; rw [List.pairwise_cons] at this
  exact this.1 x hx
theorem VLoop.notgray (h : VLoop n E gray s0 v nx k s t) (h0 : TInv n E gray s0) {x : Nat} (hx : x ∈ t) : x ∉ gray ++ [v] := fun hm => by
  have h1 := h.tnew hx
  rcases List.mem_append.1 hm with hm | hm
  · have := (h.old h0 (h0.gry x hm)).2.2; omega
  · simp at hm; subst hm; omega
theorem VLoop.stepSkip (h : VLoop n E gray s0 v nx k s t) {u : Nat} (hk : k < nx.length) (hu : nx[k] = u) (hi : s.idx u ≠ 0) (hc : 0 ≤ s.comp u) (h0 : TInv n E gray s0) : VLoop n E gray s0 v nx (k + 1) s t :=
  { h with done := (by
      intro x hx
      rw [List.take_succ_eq_append_getElem hk, List.mem_append] at hx
      rcases hx with hx | hx
      · exact h.done x hx
      · simp at hx; rw [hu] at hx; subst hx
        refine ⟨hi, fun hm => ?_⟩
        have h1 := (h0.mem x).1 hm
        rw [h.comp x h1.1] at hc; omega) }
theorem VLoop.stepBack (h : VLoop n E gray s0 v nx k s t) {u : Nat} (hk : k < nx.length) (hu : nx[k] = u) (hE : E v u) (hi : s.idx u ≠ 0) (hc : s.comp u < 0) (h0 : TInv n E gray s0) {low : Nat → Nat}
    (hl : ∀ x, low x = if x = v then min (s.low v) (s.idx u) else s.low x) : VLoop n E gray s0 v nx (k + 1) { s with low := low } t := by
  have hlv : low v = min (s.low v) (s.idx u) := by rw [hl]; simp
  have hle : low v ≤ s.low v := by rw [hlv]; exact Nat.min_le_left _ _
  refine { inv := h.inv.low low, idx := h.idx, low := ?_, comp := h.comp, clk := h.clk, new := h.new, v0 := h.v0, v1 := h.v1, stk := h.stk, lowv := ?_, wit := ?_, cross := ?_, done := ?_ }
  · intro x hx
    show low x = _
    rw [hl, if_neg (fun e => hx (by rw [e]; exact h.v0))]; exact h.low x hx
  · show low v ≤ s.idx v; exact Nat.le_trans hle h.lowv
  · obtain ⟨y, hy, h1, h2⟩ := h.wit
    show ∃ y ∈ s.stk, s.idx y = low v ∧ Rch E v y
    rw [hlv]
    by_cases hm : s.low v ≤ s.idx u
    · exact ⟨y, hy, by rw [Nat.min_eq_left hm]; exact h1, h2⟩
    · exact ⟨u, (h.inv.mem u).2 ⟨hi, hc⟩, by rw [Nat.min_eq_right (by omega)], .one hE⟩
  · intro x hx w hw hm
    exact Nat.le_trans hle (h.cross x hx w hw hm)
  · intro x hx
    show s.idx x ≠ 0 ∧ (x ∈ s0.stk → low v ≤ s0.idx x)
    rw [List.take_succ_eq_append_getElem hk, List.mem_append] at hx
    rcases hx with hx | hx
    · exact ⟨(h.done x hx).1, fun hm => Nat.le_trans hle ((h.done x hx).2 hm)⟩
    · simp at hx; rw [hu] at hx; subst hx
      refine ⟨hi, fun hm => ?_⟩
      rw [hlv, ← (h.old h0 hm).2.1]; exact Nat.min_le_right _ _
theorem VLoop.stepTree (h : VLoop n E gray s0 v nx k s t) {u : Nat} (hk : k < nx.length) (hu : nx[k] = u) (hE : E v u) (hi0 : s.idx u = 0) (h0 : TInv n E gray s0) {s' : TS} {t2 : List Nat} (hI : TInv n E (gray ++ [v]) s') (hX : TExt s s' t2) (hP : VPost E s s' t2 u) {low : Nat → Nat}
    (hl : ∀ x, low x = if x = v then min (s'.low v) (s'.low u) else s'.low x) : VLoop n E gray s0 v nx (k + 1) { s' with low := low } (t ++ t2) := by
  have hsv : s.idx v ≠ 0 := by rw [h.v1]; omega
  have hlv0 : s'.low v = s.low v := hX.low v hsv
  have hiv : s'.idx v = s.idx v := hX.idx v hsv
  have hlv : low v = min (s.low v) (s'.low u) := by rw [hl, if_pos rfl, hlv0]
  have hle : low v ≤ s.low v := by rw [hlv]; exact Nat.min_le_left _ _
  have hso : ∀ x, s0.idx x ≠ 0 → s.idx x ≠ 0 := fun x hx => by rw [h.idx x hx]; exact hx
  refine { inv := hI.low low, idx := fun x hx => (hX.idx x (hso x hx)).trans (h.idx x hx), low := ?_, comp := fun x hx => (hX.comp x (hso x hx)).trans (h.comp x hx), clk := Nat.le_trans h.clk hX.clk, new := ?_, v0 := h.v0, v1 := hiv.trans h.v1, stk := ?_, lowv := ?_, wit := ?_, cross := ?_, done := ?_ }
  · intro x hx
    show low x = _
    rw [hl, if_neg (fun e => hx (by rw [e]; exact h.v0)), hX.low x (hso x hx)]; exact h.low x hx
  · intro x hx0 hx1
    change s'.idx x ≠ 0 at hx1
    show s0.clk < s'.idx x
    by_cases hx2 : s.idx x = 0
    · have := hX.new x hx2 hx1; have := h.clk; omega
    · rw [hX.idx x hx2]; exact h.new x hx0 hx2
  · show s'.stk = _
    rw [hX.stk, h.stk]; simp
  · show low v ≤ s'.idx v
    rw [hiv]; exact Nat.le_trans hle h.lowv
  · obtain ⟨y, hy, h1, h2⟩ := h.wit
    show ∃ y ∈ s'.stk, s'.idx y = low v ∧ Rch E v y
    have hold : low v = s.low v → ∃ y ∈ s'.stk, s'.idx y = low v ∧ Rch E v y := fun e =>
      ⟨y, by rw [hX.stk]; exact List.mem_append_left _ hy, by rw [hX.idx y ((h.inv.mem y).1 hy).1, e]; exact h1, h2⟩
    rcases hP.2 with ⟨_, ⟨z, hz, hz1, hz2⟩, _⟩ | ⟨_, _, h5⟩
    · by_cases hm : s.low v ≤ s'.low u
      · exact hold (by rw [hlv, Nat.min_eq_left hm])
      · exact ⟨z, hz, by rw [hz1, hlv, Nat.min_eq_right (by omega)], .step hE hz2⟩
    · refine hold ?_
      rw [hlv, Nat.min_eq_left]
      rw [h5]
      have hlo := h.lowv
      have := hX.new u hi0 hP.1
      have := h.inv.clk v
      omega
  · intro x hx w hw hm
    show low v ≤ s0.idx w
    rcases List.mem_append.1 hx with hx | hx
    · exact Nat.le_trans hle (h.cross x hx w hw hm)
    · rcases hP.2 with ⟨_, _, h4⟩ | ⟨_, h4, _⟩
      · have hws : w ∈ s.stk := by rw [h.stk]; exact List.mem_append_left _ hm
        have := h4 x hx w hw hws
        rw [(h.old h0 hm).2.1] at this
        rw [hlv]; exact Nat.le_trans (Nat.min_le_right _ _) this
      · rw [h4] at hx; cases hx
  · intro x hx
    show s'.idx x ≠ 0 ∧ (x ∈ s0.stk → low v ≤ s0.idx x)
    rw [List.take_succ_eq_append_getElem hk, List.mem_append] at hx
    rcases hx with hx | hx
    · have := h.done x hx
      exact ⟨by rw [hX.idx x this.1]; exact this.1, fun hm => Nat.le_trans hle (this.2 hm)⟩
    · simp at hx; rw [hu] at hx; subst hx
      refine ⟨hP.1, fun hm => ?_⟩
      have := h.old h0 hm
      rw [hi0] at this; omega
theorem VLoop.leave (h : VLoop n E gray s0 v nx k s t) (h0 : TInv n E gray s0) (hk : nx.length ≤ k) (hnx : ∀ u, E v u → u ∈ nx) (hne : s.low v ≠ s.idx v) : TInv n E gray s ∧ TExt s0 s (v :: t) ∧ VPost E s0 s (v :: t) v := by
  have hlt : s.low v < s.idx v := by have := h.lowv; omega
  have hv := h.inv.mem v |>.1 h.vstk
  obtain ⟨y, hy, hy1, hy2⟩ := h.wit
  have hdone : ∀ u, E v u → s.idx u ≠ 0 ∧ (u ∈ s0.stk → s.low v ≤ s0.idx u) := fun u hu => by
    have := h.done u; rw [List.take_of_length_le hk] at this; exact this (hnx u hu)
  refine ⟨{ clk := h.inv.clk, inj := h.inv.inj, vis := h.inv.vis, srt := h.inv.srt, mem := h.inv.mem, cmp := h.inv.cmp, clo := h.inv.clo, cls := h.inv.cls, gry := fun g hg => h.inv.gry g (List.mem_append_left _ hg), dn := ?_, up := fun g hg => h.inv.up g (List.mem_append_left _ hg), blk := ?_ }, ?_, hv.1, .inl ⟨hv.2, ⟨y, hy, hy1, hy2⟩, ?_⟩⟩
  · intro x hx
    obtain ⟨g, h1, h2, h3⟩ := h.inv.dn x hx
    rcases List.mem_append.1 h1 with h1 | h1
    · exact ⟨g, h1, h2, h3⟩
    · simp at h1; subst h1
      obtain ⟨g', h4, h5, h6⟩ := h.inv.dn y hy
      rcases List.mem_append.1 h4 with h4 | h4
      · exact ⟨g', h4, by omega, h3.trans (hy2.trans h6)⟩
      · simp at h4; subst h4; omega
  · intro a b ha hga hab
    by_cases e : a = v
    · subst e; exact (hdone b hab).1
    · exact h.inv.blk a b ha (by simp [hga, e]) hab
  · exact ⟨h.idx, h.low, h.comp, h.stk, h.clk, h.new⟩
  · intro x hx u hu hm
    rcases List.mem_cons.1 hx with rfl | hx
    · exact (hdone u hu).2 hm
    · exact h.cross x hx u hu hm
theorem VLoop.pop (h : VLoop n E gray s0 v nx k s t) (h0 : TInv n E gray s0) (hk : nx.length ≤ k) (hnx : ∀ u, E v u → u ∈ nx) (he : s.low v = s.idx v) {comp : Nat → Int} (hc : ∀ x, comp x = if x ∈ v :: t then (s.cnt : Int) else s.comp x) :
    TInv n E gray { s with comp := comp, stk := s0.stk, cnt := s.cnt + 1 } ∧ TExt s0 { s with comp := comp, stk := s0.stk, cnt := s.cnt + 1 } [] ∧ VPost E s0 { s with comp := comp, stk := s0.stk, cnt := s.cnt + 1 } [] v := by
  have hdone : ∀ u, E v u → s.idx u ≠ 0 ∧ (u ∈ s0.stk → s.low v ≤ s0.idx u) := fun u hu => by
    have := h.done u; rw [List.take_of_length_le hk] at this; exact this (hnx u hu)
  have hmem : ∀ x, x ∈ v :: t ↔ x ∈ s.stk ∧ x ∉ s0.stk := fun x => by
    rw [h.stk, List.mem_append]
    refine ⟨fun hx => ⟨.inr hx, fun hm => ?_⟩, fun hx => hx.1.resolve_left hx.2⟩
    have h1 := (h.old h0 hm).2.2
    rcases List.mem_cons.1 hx with rfl | hx
    · omega
    · have := h.tnew hx; omega
  have hcin : ∀ x, x ∈ v :: t → comp x = s.cnt := fun x hx => by rw [hc, if_pos hx]
  have hcout : ∀ x, x ∉ v :: t → comp x = s.comp x := fun x hx => by rw [hc, if_neg hx]
  have hsucc : ∀ x u, x ∈ v :: t → E x u → u ∈ v :: t ∨ 0 ≤ s.comp u := fun x u hx hu => by
    have hvis : s.idx u ≠ 0 := by
      rcases List.mem_cons.1 hx with rfl | hx
      · exact (hdone u hu).1
      · exact h.inv.blk x u ((h.inv.mem x).1 (by rw [h.stk]; simp [hx])).1 (h.notgray h0 hx) hu
    by_cases hcu : 0 ≤ s.comp u
    · exact .inr hcu
    · refine .inl ((hmem u).2 ⟨(h.inv.mem u).2 ⟨hvis, by omega⟩, fun hm => ?_⟩)
      have h1 := (h.old h0 hm).2
      have h2 : s.low v ≤ s0.idx u := by
        rcases List.mem_cons.1 hx with rfl | hx
        · exact (hdone u hu).2 hm
        · exact h.cross x hx u hu hm
      omega
  have hclosed : ∀ a b, (a ∈ v :: t ∨ 0 ≤ s.comp a) → E a b → b ∈ v :: t ∨ 0 ≤ s.comp b := fun a b ha hab => by
    rcases ha with ha | ha
    · exact hsucc a b ha hab
    · exact .inr (h.inv.clo a b ha hab).1
  have hneg : ∀ x ∈ v :: t, s.comp x < 0 := fun x hx => ((h.inv.mem x).1 ((hmem x).1 hx).1).2
  have hback : ∀ x ∈ v :: t, Rch E x v := fun x hx => by
    obtain ⟨g, h1, h2, h3⟩ := h.inv.dn x ((hmem x).1 hx).1
    rcases List.mem_append.1 h1 with h1 | h1
    · exfalso
      have hgs := h0.gry g h1
      rcases h3.closed hclosed (.inl hx) with h4 | h4
      · exact ((hmem g).1 h4).2 hgs
      · have h5 := (h0.mem g).1 hgs
        rw [h.comp g h5.1] at h4; omega
    · simp at h1; subst h1; exact h3
  have hforth : ∀ x ∈ v :: t, Rch E v x := fun x hx => by
    refine h.inv.up v (by simp) x ((hmem x).1 hx).1 ?_
    rcases List.mem_cons.1 hx with rfl | hx
    · exact Nat.le_refl _
    · exact Nat.le_of_lt (h.tnew hx)
  refine ⟨?_, ⟨h.idx, h.low, ?_, by simp, h.clk, h.new⟩, ?_, ?_⟩
  · refine { clk := h.inv.clk, inj := h.inv.inj, vis := h.inv.vis, srt := ?_, mem := ?_, cmp := ?_, clo := ?_, cls := ?_, gry := ?_, dn := ?_, up := ?_, blk := ?_ }
    · have := h.inv.srt; rw [h.stk, List.pairwise_append] at this; exact this.1
    · intro x
      show x ∈ s0.stk ↔ s.idx x ≠ 0 ∧ comp x < 0
      constructor
      · intro hx
        have h1 := (h0.mem x).1 hx
        refine ⟨by rw [h.idx x h1.1]; exact h1.1, ?_⟩
        rw [hcout x (fun hm => ((hmem x).1 hm).2 hx), h.comp x h1.1]; exact h1.2
      · rintro ⟨h1, h2⟩
        by_cases hx : x ∈ v :: t
        · rw [hcin x hx] at h2; omega
        · rw [hcout x hx] at h2
          have h3 := (h.inv.mem x).2 ⟨h1, h2⟩
          by_cases h4 : x ∈ s0.stk
          · exact h4
          · exact absurd ((hmem x).2 ⟨h3, h4⟩) hx
    · intro x hx
      show s.idx x ≠ 0 ∧ comp x < ((s.cnt + 1 : Nat) : Int)
      change 0 ≤ comp x at hx
      by_cases hm : x ∈ v :: t
      · refine ⟨((h.inv.mem x).1 ((hmem x).1 hm).1).1, ?_⟩
        rw [hcin x hm]; omega
      · rw [hcout x hm] at hx ⊢
        have := h.inv.cmp x hx
        exact ⟨this.1, by omega⟩
    · intro a b ha hab
      show 0 ≤ comp b ∧ comp b ≤ comp a
      change 0 ≤ comp a at ha
      by_cases hm : a ∈ v :: t
      · rw [hcin a hm]
        rcases hsucc a b hm hab with h1 | h1
        · rw [hcin b h1]; omega
        · have h2 := h.inv.cmp b h1
          rw [hcout b (fun hx => by have := hneg b hx; omega)]; omega
      · rw [hcout a hm] at ha ⊢
        have h1 := h.inv.clo a b ha hab
        rw [hcout b (fun hx => by have := hneg b hx; omega)]; exact h1
    · intro a b ha hab
      change 0 ≤ comp a at ha; change comp a = comp b at hab
      by_cases hm : a ∈ v :: t
      · by_cases hmb : b ∈ v :: t
        · exact (hback a hm).trans (hforth b hmb)
        · rw [hcin a hm, hcout b hmb] at hab
          have := (h.inv.cmp b (by omega)).2; omega
      · rw [hcout a hm] at ha hab
        by_cases hmb : b ∈ v :: t
        · rw [hcin b hmb] at hab
          have := (h.inv.cmp a ha).2; omega
        · rw [hcout b hmb] at hab; exact h.inv.cls a b ha hab
    · exact h0.gry
    · intro x hx
      have h1 := h.old h0 hx
      obtain ⟨g, h4, h5, h6⟩ := h.inv.dn x (by rw [h.stk]; exact List.mem_append_left _ hx)
      rcases List.mem_append.1 h4 with h4 | h4
      · exact ⟨g, h4, h5, h6⟩
      · simp at h4; subst h4; omega
    · intro g hg y hy hle
      exact h.inv.up g (List.mem_append_left _ hg) y (by rw [h.stk]; exact List.mem_append_left _ hy) hle
    · intro a b ha hga hab
      by_cases e : a = v
      · subst e; exact (hdone b hab).1
      · exact h.inv.blk a b ha (by simp [hga, e]) hab
  · intro x hx
    show comp x = _
    rw [hcout x (fun hm => ?_)]
    · exact h.comp x hx
    · obtain ⟨h1, h2⟩ := (hmem x).1 hm
      have h3 := (h.inv.mem x).1 h1
      rw [h.comp x hx] at h3
      exact h2 ((h0.mem x).2 ⟨hx, h3.2⟩)
  · show s.idx v ≠ 0
    rw [h.v1]; omega
  · refine .inr ⟨?_, rfl, he⟩
    show 0 ≤ comp v
    rw [hcin v (by simp)]; omega
end
structure CompOk (n : Nat) (E : Nat → Nat → Prop) (comp : Nat → Int) (cnt : Nat) : Prop where
  pos : ∀ v, v < n → 0 ≤ comp v ∧ comp v < cnt
  clo : ∀ u v, u < n → E u v → comp v ≤ comp u
  cls : ∀ u v, u < n → v < n → comp u = comp v → Rch E u v
theorem TInv.done {n : Nat} {s : TS} (h : TInv n E [] s) (hv : ∀ v, v < n → s.idx v ≠ 0) : CompOk n E s.comp s.cnt := by
  have hp : ∀ v, v < n → 0 ≤ s.comp v := fun v hn => by
    by_cases hc : s.comp v < 0
    · obtain ⟨g, hg, _⟩ := h.dn v ((h.mem v).2 ⟨hv v hn, hc⟩); cases hg
    · omega
  exact ⟨fun v hn => ⟨hp v hn, (h.cmp v (hp v hn)).2⟩, fun u v hn e => (h.clo u v (hp u hn) e).2, fun u v hn _ e => h.cls u v (hp u hn) e⟩
theorem TInv.start (n : Nat) (low : Nat → Nat) : TInv n E [] { idx := fun _ => 0, low := low, comp := fun _ => -1, stk := [], clk := 0, cnt := 0 } :=
  ⟨fun _ => Nat.zero_le _, fun u v h => absurd rfl h, fun v h => absurd rfl h, List.Pairwise.nil, fun v => by simp, fun v h => absurd (show (0 : Int) ≤ -1 from h) (by decide), fun u v h => absurd (show (0 : Int) ≤ -1 from h) (by decide), fun u v h => absurd (show (0 : Int) ≤ -1 from h) (by decide), fun g h => (List.not_mem_nil h).elim, fun g h => (List.not_mem_nil h).elim, fun g h => (List.not_mem_nil h).elim, fun u v h => absurd rfl h⟩
theorem CompOk.rch {n : Nat} {comp : Nat → Int} {cnt : Nat} (h : CompOk n E comp cnt) (hE : ∀ u v, E u v → u < n ∧ v < n) {u v : Nat} (hu : u < n) (hr : Rch E u v) : comp v ≤ comp u ∧ v < n := by
  induction hr with
  | refl => exact ⟨Int.le_refl _, hu⟩
  | step e _ ih =>
    have h1 := hE _ _ e
    have h2 := ih h1.2
    have h3 := h.clo _ _ h1.1 e
    exact ⟨by omega, h2.2⟩
theorem CompOk.iff {n : Nat} {comp : Nat → Int} {cnt : Nat} (h : CompOk n E comp cnt) (hE : ∀ u v, E u v → u < n ∧ v < n) {u v : Nat} (hu : u < n) (hv : v < n) : comp u = comp v ↔ Rch E u v ∧ Rch E v u := by
  constructor
  · intro e; exact ⟨h.cls u v hu hv e, h.cls v u hv hu e.symm⟩
  · rintro ⟨h1, h2⟩
    have h3 := (h.rch hE hu h1).1
    have h4 := (h.rch hE hv h2).1
    omega
end
end Go.Lx


namespace Go.Lx
section
variable {E : Nat → Nat → Prop}
structure Pth (E : Nat → Nat → Prop) (p : Nat → Nat) (L : Nat) (u v : Nat) : Prop where
  s : p 0 = u
  e : p L = v
  st : ∀ i, i < L → E (p i) (p (i + 1))
theorem Pth.rch {p : Nat → Nat} : ∀ {L u v : Nat}, Pth E p L u v → Rch E u v
  | 0, u, v, h => by rw [← h.s, ← h.e]; exact .refl _
  | L + 1, u, v, h => by
    have h1 : Pth E p L u (p L) := ⟨h.s, rfl, fun i hi => h.st i (by omega)⟩
    have := h.st L (by omega)
    rw [h.e] at this
    exact h1.rch.tail this
theorem Pth.cat {p q : Nat → Nat} {L K u v w : Nat} (h : Pth E p L u v) (g : Pth E q K v w) : Pth E (fun i => if i < L then p i else q (i - L)) (L + K) u w := by
  refine ⟨?_, ?_, fun i hi => ?_⟩
  · by_cases h0 : 0 < L
    · simp [h0, h.s]
    · have : L = 0 := by omega
      subst this
      simp; rw [g.s, ← h.e, h.s]
  · show (if L + K < L then p (L + K) else q (L + K - L)) = w
    rw [if_neg (by omega), Nat.add_sub_cancel_left]; exact g.e
  · by_cases h1 : i + 1 < L
    · have h2 : i < L := by omega
      simp only [h1, h2, if_true]; exact h.st i h2
    · by_cases h2 : i < L
      · have h3 : i + 1 = L := by omega
        simp only [h2, h1, if_true, if_false]
        rw [h3, Nat.sub_self, g.s, ← h.e, ← h3]; exact h.st i h2
      · simp only [h1, h2, if_false]
        rw [show i + 1 - L = (i - L) + 1 by omega]; exact g.st _ (by omega)
theorem Pth.edge {u v : Nat} (e : E u v) : Pth E (fun i => if i = 0 then u else v) 1 u v := by
  refine ⟨rfl, rfl, fun i hi => ?_⟩
  have h0 : i = 0 := by omega
  subst h0
  exact e
theorem Rch.pth {u v : Nat} (h : Rch E u v) : ∃ p L, Pth E p L u v := by
  induction h with
  | refl v => exact ⟨fun _ => v, 0, rfl, rfl, fun i hi => by omega⟩
  | @step u v w e _ ih =>
    obtain ⟨p, L, h⟩ := ih
    have h1 := Pth.edge e
    exact ⟨_, _, h1.cat h⟩
def Core (E : Nat → Nat → Prop) (m : Nat) (M : Nat → Nat → Prop) (v : Nat) : Prop := (∃ u, E v u ∧ Rch E u v) ∧ ∀ k, k < m → ∃ u, M k u ∧ Rch E v u ∧ Rch E u v
def LiveG (E : Nat → Nat → Prop) (m : Nat) (M : Nat → Nat → Prop) (v : Nat) : Prop := ∃ u, Rch E v u ∧ Core E m M u
structure Fair (E : Nat → Nat → Prop) (m : Nat) (M : Nat → Nat → Prop) (v : Nat) (r : Nat → Nat) : Prop where
  s : r 0 = v
  st : ∀ i, E (r i) (r (i + 1))
  inf : ∀ k, k < m → ∀ N, ∃ i, N ≤ i ∧ M k (r i)
theorem Core.round {m : Nat} {M : Nat → Nat → Prop} {v : Nat} (h : Core E m M v) : ∃ p L, Pth E p L v v ∧ 0 < L ∧ ∀ k, k < m → ∃ i, i < L ∧ M k (p i) := by
  have key : ∀ j, j ≤ m → ∃ p L, Pth E p L v v ∧ 0 < L ∧ ∀ k, k < j → ∃ i, i < L ∧ M k (p i) := by
    intro j
    induction j with
    | zero =>
      intro _
      obtain ⟨u, h1, h2⟩ := h.1
      obtain ⟨p, L, hp⟩ := h2.pth
      have h3 := Pth.edge h1
      exact ⟨_, _, h3.cat hp, by omega, fun k hk => by omega⟩
    | succ j ih =>
      intro hj
      obtain ⟨p, L, hp, hL, hm⟩ := ih (by omega)
      obtain ⟨u, h1, h2, h3⟩ := h.2 j (by omega)
      obtain ⟨q, K, hq⟩ := h2.pth
      obtain ⟨q', K', hq'⟩ := h3.pth
      have h4 := (hq.cat hq').cat hp
      refine ⟨_, _, h4, by omega, fun k hk => ?_⟩
      by_cases e : k = j
      · subst e
        refine ⟨K, by omega, ?_⟩
        by_cases hk' : 0 < K'
        · simp [show K < K + K' by omega, hq'.s, h1]
        · have hk0 : K' = 0 := by omega
          subst hk0
          simp only [Nat.add_zero, Nat.lt_irrefl, if_false, Nat.sub_self]
          have : u = v := by rw [← hq'.s, ← hq'.e]
          rw [hp.s, ← this]; exact h1
      · obtain ⟨i, hi, hM⟩ := hm k (by omega)
        refine ⟨K + K' + i, by omega, ?_⟩
        simp only [show ¬ (K + K' + i < K + K') by omega, if_false]
        rw [show K + K' + i - (K + K') = i by omega]; exact hM
  exact key m (Nat.le_refl _)
theorem LiveG.fair {m : Nat} {M : Nat → Nat → Prop} {v : Nat} (h : LiveG E m M v) : ∃ r, Fair E m M v r := by
  obtain ⟨u, h1, h2⟩ := h
  obtain ⟨p, L, hp⟩ := h1.pth
  obtain ⟨q, K, hq, hK, hm⟩ := h2.round
  refine ⟨fun i => if i < L then p i else q ((i - L) % K), ?_, ?_, ?_⟩
  · by_cases h0 : 0 < L
    · simp [h0, hp.s]
    · have : L = 0 := by omega
      subst this
      simp [Nat.zero_mod]; rw [hq.s, ← hp.e, hp.s]
  · intro i
    by_cases h1 : i + 1 < L
    · simp only [h1, show i < L by omega, if_true]; exact hp.st i (by omega)
    · by_cases h2 : i < L
      · have h3 : i + 1 = L := by omega
        simp only [h1, h2, if_true, if_false]
        rw [h3, Nat.sub_self, Nat.zero_mod, hq.s, ← hp.e, ← h3]; exact hp.st i h2
      · simp only [h1, h2, if_false]
        have h3 : (i - L) % K < K := Nat.mod_lt _ hK
        have h4 := hq.st _ h3
        obtain ⟨j, hj⟩ : ∃ j, (i - L) % K = j := ⟨_, rfl⟩
        have h5 : (i + 1 - L) % K = (j + 1) % K := by
          rw [show i + 1 - L = (i - L) + 1 by omega, ← hj, Nat.mod_add_mod]
        rw [hj] at h3 h4
        rw [h5, hj]
        by_cases h6 : j + 1 = K
        · rw [h6, Nat.mod_self, hq.s]
          rw [h6, hq.e] at h4; exact h4
        · rw [Nat.mod_eq_of_lt (by omega)]; exact h4
  · intro k hk N
    obtain ⟨i, hi, hM⟩ := hm k hk
    refine ⟨L + (i + K * N), by have := Nat.le_mul_of_pos_left N hK; omega, ?_⟩
    simp only [show ¬ (L + (i + K * N) < L) by omega, if_false]
    rw [show L + (i + K * N) - L = i + K * N by omega, Nat.add_mul_mod_self_left, Nat.mod_eq_of_lt hi]; exact hM
theorem Fair.rch {m : Nat} {M : Nat → Nat → Prop} {v : Nat} {r : Nat → Nat} (h : Fair E m M v r) {i j : Nat} (hij : i ≤ j) : Rch E (r i) (r j) :=
  Pth.rch (p := fun k => r (i + k)) (L := j - i) ⟨rfl, by show r (i + (j - i)) = _; rw [Nat.add_sub_cancel' hij], fun k _ => h.st (i + k)⟩
theorem inf_pigeon {r : Nat → Nat} {n : Nat} {Q : Nat → Prop} (hn : ∀ i, r i < n) (hq : ∀ N, ∃ i, N ≤ i ∧ Q (r i)) : ∃ v, Q v ∧ ∀ N, ∃ i, N ≤ i ∧ r i = v := by
  apply Classical.byContradiction
  intro hno
  have hb : ∀ k, ∃ N, ∀ i, N ≤ i → Q (r i) → ¬ r i < k := by
    intro k
    induction k with
    | zero => exact ⟨0, fun i _ _ => by omega⟩
    | succ k ih =>
      obtain ⟨N, hN⟩ := ih
      by_cases hk : Q k
      · have : ¬ ∀ N, ∃ i, N ≤ i ∧ r i = k := fun h => hno ⟨k, hk, h⟩
        obtain ⟨N', h'⟩ := Classical.not_forall.1 this
        refine ⟨max N N', fun i hi hQ hlt => ?_⟩
        by_cases e : r i = k
        · exact h' ⟨i, by omega, e⟩
        · exact hN i (by omega) hQ (by omega)
      · refine ⟨N, fun i hi hQ hlt => ?_⟩
        by_cases e : r i = k
        · rw [e] at hQ; exact hk hQ
        · exact hN i hi hQ (by omega)
  obtain ⟨N, hN⟩ := hb n
  obtain ⟨i, h1, h2⟩ := hq N
  exact hN i h1 h2 (hn i)
theorem Fair.live {m n : Nat} {M : Nat → Nat → Prop} {v : Nat} {r : Nat → Nat} (h : Fair E m M v r) (hn : ∀ i, r i < n) : LiveG E m M v := by
  obtain ⟨u, _, hu⟩ := inf_pigeon (Q := fun _ => True) hn (fun N => ⟨N, Nat.le_refl _, trivial⟩)
  have hmut : ∀ w, (∀ N, ∃ i, N ≤ i ∧ r i = w) → Rch E u w ∧ Rch E w u := fun w hw => by
    obtain ⟨i, _, hi⟩ := hu 0
    obtain ⟨j, hj, hj'⟩ := hw i
    obtain ⟨k, hk, hk'⟩ := hu j
    exact ⟨by rw [← hi, ← hj']; exact h.rch hj, by rw [← hk', ← hj']; exact h.rch hk⟩
  obtain ⟨i, _, hi⟩ := hu 0
  refine ⟨u, by rw [← h.s, ← hi]; exact h.rch (Nat.zero_le _), ?_, fun k hk => ?_⟩
  · obtain ⟨j, hj, hj'⟩ := hu (i + 1)
    refine ⟨r (i + 1), by rw [← hi]; exact h.st i, by rw [← hj']; exact h.rch hj⟩
  · obtain ⟨w, hw, hw'⟩ := inf_pigeon (Q := M k) hn (h.inf k hk)
    exact ⟨w, hw, hmut w hw'⟩
theorem live_iff {m n : Nat} {M : Nat → Nat → Prop} {v : Nat} (hE : ∀ u w, E u w → u < n ∧ w < n) : LiveG E m M v ↔ ∃ r, Fair E m M v r :=
  ⟨LiveG.fair, fun ⟨_, h⟩ => h.live (fun i => (hE _ _ (h.st i)).1)⟩
theorem LiveG.back {m : Nat} {M : Nat → Nat → Prop} {u v : Nat} (h : LiveG E m M v) (hr : Rch E u v) : LiveG E m M u := by
  obtain ⟨w, h1, h2⟩ := h
  exact ⟨w, hr.trans h1, h2⟩
theorem core_comp {n m : Nat} {M : Nat → Nat → Prop} {comp : Nat → Int} {cnt : Nat} (h : CompOk n E comp cnt) (hE : ∀ u v, E u v → u < n ∧ v < n) (hM : ∀ k v, M k v → v < n) {v : Nat} (hv : v < n) :
    Core E m M v ↔ (∃ a b, E a b ∧ comp a = comp v ∧ comp b = comp v) ∧ ∀ k, k < m → ∃ u, M k u ∧ comp u = comp v := by
  constructor
  · rintro ⟨⟨u, h1, h2⟩, h3⟩
    refine ⟨⟨v, u, h1, rfl, ((h.iff hE (hE _ _ h1).2 hv).2 ⟨h2, .one h1⟩)⟩, fun k hk => ?_⟩
    obtain ⟨u, h4, h5, h6⟩ := h3 k hk
    exact ⟨u, h4, (h.iff hE (hM _ _ h4) hv).2 ⟨h6, h5⟩⟩
  · rintro ⟨⟨a, b, h1, h2, h3⟩, h4⟩
    have ha := (h.iff hE (hE _ _ h1).1 hv).1 h2
    have hb := (h.iff hE (hE _ _ h1).2 hv).1 h3
    refine ⟨?_, fun k hk => ?_⟩
    · rcases ha.2 with _ | ⟨e, hr⟩
      · exact ⟨b, h1, hb.1⟩
      · exact ⟨_, e, hr.trans (.step h1 hb.1)⟩
    · obtain ⟨u, h5, h6⟩ := h4 k hk
      have hu := (h.iff hE (hM _ _ h5) hv).1 h6
      exact ⟨u, h5, hu.2, hu.1⟩
end
end Go.Lx


namespace Go.Lx
structure Ed where
  fr : Int
  to : Int
  pos : Nat
  neg : Nat
deriving DecidableEq
structure Bu where
  vars : Int
  states : Int
  start : List Int
  edges : List Ed
  sets : List (List Int)
deriving DecidableEq
structure La where
  pre : List Nat
  loop : List Nat
deriving DecidableEq
def rises (n : Int) : Int → List Int → Bool
  | _, [] => true
  | a, x :: l => decide (a < x) && decide (x < n) && rises n x l
def edgeOk (n : Int) (e : Ed) : Bool := decide (0 ≤ e.fr) && decide (e.fr < n) && decide (0 ≤ e.to) && decide (e.to < n)
def cubeOk (v : Nat) (e : Ed) : Bool := decide (e.pos < 2 ^ v) && decide (e.neg < 2 ^ v) && decide (e.pos &&& e.neg = 0)
def edgesE (n : Int) (v : Nat) : List Ed → Nat
  | [] => 0
  | e :: es => if edgeOk n e = true then (if cubeOk v e = true then edgesE n v es else 1) else 8
def checkB (b : Bu) : Nat :=
  if ¬ (0 ≤ b.vars ∧ b.vars ≤ 6) then 7
  else if b.states < 0 then 1
  else if 4096 < b.states then 10
  else if 8 < b.sets.length then 4
  else if rises b.states (-1) b.start = true ∧ b.sets.all (rises b.states (-1)) = true then edgesE b.states b.vars.toNat b.edges
  else 8
def checkL (v : Nat) (l : La) : Nat :=
  if l.loop.length = 0 then 3
  else if 64 < l.pre.length ∨ 64 < l.loop.length then 4
  else if (l.pre.all fun x => decide (x < 2 ^ v)) = true ∧ (l.loop.all fun x => decide (x < 2 ^ v)) = true then 0
  else 1
def checkLV (v : Int) (l : La) : Nat := if ¬ (0 ≤ v ∧ v ≤ 6) then 7 else checkL v.toNat l
theorem any_not {α : Type} {l : List α} {p : α → Prop} [DecidablePred p] (h : (l.all fun x => decide (p x)) = true) : (l.any fun x => decide (¬ p x)) = false := by
  rw [List.any_eq_false]; intro x hx; have := List.all_eq_true.1 h x hx; simpa using this
theorem all_not {α : Type} {l : List α} {p : α → Prop} [DecidablePred p] (h : (l.any fun x => decide (¬ p x)) = false) : (l.all fun x => decide (p x)) = true := by
  rw [List.any_eq_false] at h; rw [List.all_eq_true]; intro x hx; have := h x hx; simpa using this
theorem rises_no {n a : Int} {xs : List Int} {k : Nat} (hk : k < xs.length) (h : xs[k] ≤ a ∨ n ≤ xs[k]) : rises n a (xs.drop k) = false := by
  rw [List.drop_eq_getElem_cons hk]
  simp only [rises, Bool.and_eq_false_iff, decide_eq_false_iff_not]
  left; rcases h with h | h
  · left; omega
  · right; omega
theorem rises_yes {n a : Int} {xs : List Int} {k : Nat} (hk : k < xs.length) (h1 : a < xs[k]) (h2 : xs[k] < n) : rises n a (xs.drop k) = rises n xs[k] (xs.drop (k + 1)) := by
  rw [List.drop_eq_getElem_cons hk]
  simp [rises, h1, h2]
theorem rises_end {n a : Int} {xs : List Int} {k : Nat} (hk : ¬ k < xs.length) : rises n a (xs.drop k) = true := by
  rw [List.drop_eq_nil_of_le (by omega)]; rfl
theorem edges_8 {n : Int} {v : Nat} {es : List Ed} {k : Nat} (hk : k < es.length) (h : es[k].fr < 0 ∨ n ≤ es[k].fr ∨ es[k].to < 0 ∨ n ≤ es[k].to) : edgesE n v (es.drop k) = 8 := by
  rw [List.drop_eq_getElem_cons hk, edgesE, if_neg]
  simp only [edgeOk, Bool.and_eq_true, decide_eq_true_eq]; omega
theorem edges_1 {n : Int} {v : Nat} {es : List Ed} {k : Nat} (hk : k < es.length) (h : ¬ (es[k].fr < 0 ∨ n ≤ es[k].fr ∨ es[k].to < 0 ∨ n ≤ es[k].to)) (h2 : ¬ (es[k].pos < 2 ^ v ∧ es[k].neg < 2 ^ v ∧ es[k].pos &&& es[k].neg = 0)) : edgesE n v (es.drop k) = 1 := by
  rw [List.drop_eq_getElem_cons hk, edgesE, if_pos, if_neg]
  · simp only [cubeOk, Bool.and_eq_true, decide_eq_true_eq]; exact fun q => h2 ⟨q.1.1, q.1.2, q.2⟩
  · simp only [edgeOk, Bool.and_eq_true, decide_eq_true_eq]; omega
theorem edges_0 {n : Int} {v : Nat} {es : List Ed} {k : Nat} (hk : k < es.length) (h : ¬ (es[k].fr < 0 ∨ n ≤ es[k].fr ∨ es[k].to < 0 ∨ n ≤ es[k].to)) (h2 : es[k].pos < 2 ^ v ∧ es[k].neg < 2 ^ v ∧ es[k].pos &&& es[k].neg = 0) : edgesE n v (es.drop k) = edgesE n v (es.drop (k + 1)) := by
  rw [List.drop_eq_getElem_cons hk, edgesE, if_pos, if_pos]
  · simp only [cubeOk, Bool.and_eq_true, decide_eq_true_eq]; exact ⟨⟨h2.1, h2.2.1⟩, h2.2.2⟩
  · simp only [edgeOk, Bool.and_eq_true, decide_eq_true_eq]; omega
theorem or_lt {a b v : Nat} : a ||| b < 2 ^ v ↔ a < 2 ^ v ∧ b < 2 ^ v := by
  constructor
  · intro h; exact ⟨Nat.lt_of_le_of_lt Nat.left_le_or h, Nat.lt_of_le_of_lt Nat.right_le_or h⟩
  · rintro ⟨h1, h2⟩; exact Nat.or_lt_two_pow h1 h2
theorem checkB_7 {b : Bu} (h : ¬ (0 ≤ b.vars ∧ b.vars ≤ 6)) : checkB b = 7 := by unfold checkB; rw [if_pos h]
theorem checkB_1 {b : Bu} (h : 0 ≤ b.vars ∧ b.vars ≤ 6) (h1 : b.states < 0) : checkB b = 1 := by unfold checkB; rw [if_neg (fun q => q h), if_pos h1]
theorem checkB_10 {b : Bu} (h : 0 ≤ b.vars ∧ b.vars ≤ 6) (h1 : ¬ b.states < 0) (h2 : 4096 < b.states) : checkB b = 10 := by unfold checkB; rw [if_neg (fun q => q h), if_neg h1, if_pos h2]
theorem checkB_4 {b : Bu} (h : 0 ≤ b.vars ∧ b.vars ≤ 6) (h1 : ¬ b.states < 0) (h2 : ¬ 4096 < b.states) (h3 : 8 < b.sets.length) : checkB b = 4 := by unfold checkB; rw [if_neg (fun q => q h), if_neg h1, if_neg h2, if_pos h3]
theorem checkB_8 {b : Bu} (h : 0 ≤ b.vars ∧ b.vars ≤ 6) (h1 : ¬ b.states < 0) (h2 : ¬ 4096 < b.states) (h3 : ¬ 8 < b.sets.length) (h4 : ((b.start :: b.sets).all (rises b.states (-1))) = false) : checkB b = 8 := by
  unfold checkB; rw [if_neg (fun q => q h), if_neg h1, if_neg h2, if_neg h3, if_neg]
  rintro ⟨q1, q2⟩; rw [List.all_cons, q1, q2] at h4; cases h4
theorem checkB_e {b : Bu} (h : 0 ≤ b.vars ∧ b.vars ≤ 6) (h1 : ¬ b.states < 0) (h2 : ¬ 4096 < b.states) (h3 : ¬ 8 < b.sets.length) (h4 : ((b.start :: b.sets).all (rises b.states (-1))) = true) : checkB b = edgesE b.states b.vars.toNat (b.edges.drop 0) := by
  unfold checkB; rw [if_neg (fun q => q h), if_neg h1, if_neg h2, if_neg h3, if_pos]
  · rfl
  · rw [List.all_cons, Bool.and_eq_true] at h4; exact h4
theorem all_no {α : Type} {l : List α} {k : Nat} (h : k < l.length) {p : α → Bool} (h2 : p l[k] = false) : l.all p = false := by
  rw [List.all_eq_false]; exact ⟨_, List.getElem_mem h, by rw [h2]; decide⟩
theorem all_snoc {α : Type} {l : List α} {k : Nat} (h : k < l.length) {p : α → Bool} (h1 : (l.take k).all p = true) (h2 : p l[k] = true) : (l.take (k + 1)).all p = true := by
  rw [List.take_succ_eq_append_getElem h, List.all_append, h1]; simp [h2]
theorem all_done {α : Type} {l : List α} {k : Nat} (h : ¬ k < l.length) {p : α → Bool} (h1 : (l.take k).all p = true) : l.all p = true := by rwa [List.take_of_length_le (by omega)] at h1
theorem rises_mem {n : Int} : ∀ {l : List Int} {a : Int}, rises n a l = true → ∀ x ∈ l, a < x ∧ x < n
  | [], _, _, x, hx => by cases hx
  | y :: l, a, h, x, hx => by
    simp only [rises, Bool.and_eq_true, decide_eq_true_eq] at h
    rcases List.mem_cons.1 hx with rfl | hx
    · exact ⟨h.1.1, h.1.2⟩
    · have := rises_mem h.2 x hx; omega
theorem rises_pair {n : Int} : ∀ {l : List Int} {a : Int}, rises n a l = true → l.Pairwise (· < ·)
  | [], _, _ => List.Pairwise.nil
  | y :: l, a, h => by
    simp only [rises, Bool.and_eq_true, decide_eq_true_eq] at h
    exact List.pairwise_cons.2 ⟨fun x hx => (rises_mem h.2 x hx).1, rises_pair h.2⟩
structure ValidB (b : Bu) : Prop where
  v0 : 0 ≤ b.vars
  v6 : b.vars ≤ 6
  n0 : 0 ≤ b.states
  n4 : b.states ≤ 4096
  m8 : b.sets.length ≤ 8
  st : ∀ s ∈ b.start, 0 ≤ s ∧ s < b.states
  sst : b.start.Pairwise (· < ·)
  se : ∀ l ∈ b.sets, ∀ s ∈ l, 0 ≤ s ∧ s < b.states
  sse : ∀ l ∈ b.sets, l.Pairwise (· < ·)
  ed : ∀ e ∈ b.edges, (0 ≤ e.fr ∧ e.fr < b.states) ∧ (0 ≤ e.to ∧ e.to < b.states)
  cu : ∀ e ∈ b.edges, e.pos < 2 ^ b.vars.toNat ∧ e.neg < 2 ^ b.vars.toNat ∧ e.pos &&& e.neg = 0
theorem edgesE_zero {n : Int} {v : Nat} : ∀ {es : List Ed}, edgesE n v es = 0 ↔ (∀ e ∈ es, (0 ≤ e.fr ∧ e.fr < n) ∧ (0 ≤ e.to ∧ e.to < n)) ∧ ∀ e ∈ es, e.pos < 2 ^ v ∧ e.neg < 2 ^ v ∧ e.pos &&& e.neg = 0
  | [] => by simp [edgesE]
  | e :: es => by
    have ih := edgesE_zero (n := n) (v := v) (es := es)
    simp only [edgesE, List.mem_cons, forall_eq_or_imp]
    by_cases h : edgeOk n e = true
    · by_cases h2 : cubeOk v e = true
      · rw [if_pos h, if_pos h2, ih]
        simp only [edgeOk, cubeOk, Bool.and_eq_true, decide_eq_true_eq] at h h2
        exact ⟨fun q => ⟨⟨⟨⟨h.1.1.1, h.1.1.2⟩, h.1.2, h.2⟩, q.1⟩, ⟨h2.1.1, h2.1.2, h2.2⟩, q.2⟩, fun q => ⟨q.1.2, q.2.2⟩⟩
      · rw [if_pos h, if_neg h2]
        refine ⟨fun q => by omega, fun q => (h2 ?_).elim⟩
        simp only [cubeOk, Bool.and_eq_true, decide_eq_true_eq]
        exact ⟨⟨q.2.1.1, q.2.1.2.1⟩, q.2.1.2.2⟩
    · rw [if_neg h]
      refine ⟨fun q => by omega, fun q => (h ?_).elim⟩
      simp only [edgeOk, Bool.and_eq_true, decide_eq_true_eq]
      exact ⟨⟨⟨q.1.1.1.1, q.1.1.1.2⟩, q.1.1.2.1⟩, q.1.1.2.2⟩
theorem rises_of {n : Int} : ∀ {l : List Int} {a : Int}, (∀ x ∈ l, a < x ∧ x < n) → l.Pairwise (· < ·) → rises n a l = true
  | [], _, _, _ => rfl
  | y :: l, a, h, hp => by
    rw [List.pairwise_cons] at hp
    simp only [rises, Bool.and_eq_true, decide_eq_true_eq]
    exact ⟨h y (by simp), rises_of (fun x hx => ⟨hp.1 x hx, (h x (by simp [hx])).2⟩) hp.2⟩
theorem checkB_zero {b : Bu} : checkB b = 0 ↔ ValidB b := by
  unfold checkB
  constructor
  · intro h
    split at h; · cases h
    split at h; · cases h
    split at h; · cases h
    split at h; · cases h
    split at h
    · rename_i h1 h2 h3 h4 h5
      simp only [Classical.not_not] at h1
      have h6 := edgesE_zero.1 h
      have h7 : ∀ l ∈ b.sets, rises b.states (-1) l = true := by simpa using h5.2
      exact { v0 := h1.1, v6 := h1.2, n0 := by omega, n4 := by omega, m8 := by omega, st := fun s hs => by have := rises_mem h5.1 s hs; omega, sst := rises_pair h5.1, se := fun l hl s hs => by have := rises_mem (h7 l hl) s hs; omega, sse := fun l hl => rises_pair (h7 l hl), ed := h6.1, cu := h6.2 }
    · cases h
  · intro h
    rw [if_neg (by have := h.v0; have := h.v6; simp; omega), if_neg (by have := h.n0; omega), if_neg (by have := h.n4; omega), if_neg (by have := h.m8; omega), if_pos, edgesE_zero.2 ⟨h.ed, h.cu⟩]
    refine ⟨rises_of (fun x hx => by have := h.st x hx; omega) h.sst, ?_⟩
    simp only [List.all_eq_true]
    exact fun l hl => rises_of (fun x hx => by have := h.se l hl x hx; omega) (h.sse l hl)
def La.n (l : La) : Nat := l.pre.length + l.loop.length
def La.ix (l : La) (i : Nat) : Nat := if i < l.pre.length then i else l.pre.length + (i - l.pre.length) % max l.loop.length 1
def La.at (l : La) (i : Nat) : Nat := if i < l.pre.length then l.pre.getD i 0 else l.loop.getD ((i - l.pre.length) % max l.loop.length 1) 0
theorem La.ix_lt {l : La} (h : 0 < l.loop.length) (i : Nat) : l.ix i < l.n := by
  unfold La.ix La.n
  split
  · omega
  · have := Nat.mod_lt (i - l.pre.length) (show 0 < max l.loop.length 1 by omega); omega
theorem La.ix_id {l : La} (h : 0 < l.loop.length) {i : Nat} (hi : i < l.n) : l.ix i = i := by
  unfold La.ix
  split
  · rfl
  · unfold La.n at hi
    rw [Nat.mod_eq_of_lt (by omega)]; omega
theorem La.at_ix {l : La} (i : Nat) : l.at (l.ix i) = l.at i := by
  unfold La.at La.ix
  by_cases h : i < l.pre.length
  · simp [h]
  · simp only [h, if_false]
    rw [if_neg (by omega), Nat.add_sub_cancel_left, Nat.mod_mod]
theorem La.ix_succ {l : La} (i : Nat) : l.ix (l.ix i + 1) = l.ix (i + 1) := by
  unfold La.ix
  by_cases h : i < l.pre.length
  · simp [h]
  · simp only [h, if_false]
    rw [if_neg (show ¬ i + 1 < l.pre.length by omega), if_neg (by omega)]
    rw [show l.pre.length + (i - l.pre.length) % max l.loop.length 1 + 1 - l.pre.length = (i - l.pre.length) % max l.loop.length 1 + 1 by omega, show i + 1 - l.pre.length = (i - l.pre.length) + 1 by omega, Nat.mod_add_mod]
def mtch (e : Ed) (x : Nat) : Prop := x &&& e.pos = e.pos ∧ x &&& e.neg = 0
instance (e : Ed) (x : Nat) : Decidable (mtch e x) := by unfold mtch; exact inferInstance
structure Run (b : Bu) (w : Nat → Nat) (s : Nat) (r : Nat → Nat) : Prop where
  s : r 0 = s
  st : ∀ i, ∃ e ∈ b.edges, e.fr = r i ∧ e.to = r (i + 1) ∧ mtch e (w i)
  inf : ∀ S ∈ b.sets, ∀ N, ∃ i, N ≤ i ∧ (r i : Int) ∈ S
def Acc (b : Bu) (w : Nat → Nat) : Prop := ∃ s : Nat, (s : Int) ∈ b.start ∧ ∃ r, Run b w s r
def PE (b : Bu) (l : La) (u v : Nat) : Prop := ∃ e ∈ b.edges, ∃ i, i < l.n ∧ mtch e (l.at i) ∧ u = e.fr.toNat * l.n + i ∧ v = e.to.toNat * l.n + l.ix (i + 1)
def PM (b : Bu) (l : La) (k v : Nat) : Prop := v < b.states.toNat * l.n ∧ ∃ S, b.sets[k]? = some S ∧ ((v / l.n : Nat) : Int) ∈ S
theorem PE.lt {b : Bu} {l : La} (h : ValidB b) (hl : 0 < l.loop.length) {u v : Nat} (he : PE b l u v) : u < b.states.toNat * l.n ∧ v < b.states.toNat * l.n := by
  obtain ⟨e, h1, i, h2, _, rfl, rfl⟩ := he
  have h3 := h.ed e h1
  have h4 := La.ix_lt hl (i + 1)
  have hn : 0 < l.n := by omega
  have key : ∀ a j : Nat, a + 1 ≤ b.states.toNat → j < l.n → a * l.n + j < b.states.toNat * l.n := fun a j ha hj => by
    have := Nat.mul_le_mul_right l.n ha
    rw [Nat.add_mul, Nat.one_mul] at this; omega
  exact ⟨key _ _ (by omega) h2, key _ _ (by omega) h4⟩
theorem live_run {b : Bu} {l : La} (h : ValidB b) (hl : 0 < l.loop.length) {s : Nat} : LiveG (PE b l) b.sets.length (PM b l) (s * l.n) ↔ ∃ r, Run b l.at s r := by
  have hn : 0 < l.n := by have : l.n = l.pre.length + l.loop.length := rfl; omega
  rw [live_iff (fun u w he => he.lt h hl)]
  constructor
  · rintro ⟨q, h1, h2, h3⟩
    have hpos : ∀ i, q i % l.n = l.ix i := by
      intro i
      induction i with
      | zero =>
        rw [h1, Nat.mul_mod_left]
        exact (La.ix_id hl hn).symm
      | succ i ih =>
        obtain ⟨e, _, j, hj, _, e1, e2⟩ := h2 i
        rw [e2, Nat.mul_add_mod_self_right, Nat.mod_eq_of_lt (La.ix_lt hl _)]
        rw [e1, Nat.mul_add_mod_self_right, Nat.mod_eq_of_lt hj] at ih
        rw [ih, La.ix_succ]
    refine ⟨fun i => q i / l.n, ?_, fun i => ?_, fun S hS N => ?_⟩
    · show q 0 / l.n = s
      rw [h1, Nat.mul_div_cancel _ hn]
    · obtain ⟨e, he, j, hj, hm, e1, e2⟩ := h2 i
      have h4 := h.ed e he
      have hp := hpos i
      rw [e1, Nat.mul_add_mod_self_right, Nat.mod_eq_of_lt hj] at hp
      refine ⟨e, he, ?_, ?_, ?_⟩
      · show e.fr = ((q i / l.n : Nat) : Int)
        rw [e1, Nat.mul_comm, Nat.mul_add_div hn, Nat.div_eq_of_lt hj, Nat.add_zero]; omega
      · show e.to = ((q (i + 1) / l.n : Nat) : Int)
        rw [e2, Nat.mul_comm, Nat.mul_add_div hn, Nat.div_eq_of_lt (La.ix_lt hl _), Nat.add_zero]; omega
      · rw [hp, La.at_ix] at hm; exact hm
    · obtain ⟨k, hk, hk'⟩ := List.mem_iff_getElem.1 hS
      obtain ⟨i, hi, _, S', hS', hm⟩ := h3 k hk N
      rw [List.getElem?_eq_getElem hk, hk'] at hS'
      cases hS'
      exact ⟨i, hi, hm⟩
  · rintro ⟨r, h1, h2, h3⟩
    have hr : ∀ i, r i < b.states.toNat := fun i => by
      obtain ⟨e, he, e1, _, _⟩ := h2 i
      have := (h.ed e he).1; omega
    have hdiv : ∀ i, (r i * l.n + l.ix i) / l.n = r i := fun i => by
      rw [Nat.mul_comm, Nat.mul_add_div hn, Nat.div_eq_of_lt (La.ix_lt hl _), Nat.add_zero]
    refine ⟨fun i => r i * l.n + l.ix i, ?_, fun i => ?_, fun k hk N => ?_⟩
    · show r 0 * l.n + l.ix 0 = _
      rw [h1, La.ix_id hl hn, Nat.add_zero]
    · obtain ⟨e, he, e1, e2, hm⟩ := h2 i
      refine ⟨e, he, l.ix i, La.ix_lt hl i, by rw [La.at_ix]; exact hm, ?_, ?_⟩
      · show r i * l.n + l.ix i = _
        rw [e1]; rfl
      · show r (i + 1) * l.n + l.ix (i + 1) = _
        rw [e2, La.ix_succ]; rfl
    · obtain ⟨i, hi, hm⟩ := h3 b.sets[k] (List.getElem_mem hk) N
      refine ⟨i, hi, ?_, b.sets[k], List.getElem?_eq_getElem hk, ?_⟩
      · show r i * l.n + l.ix i < _
        have h4 := Nat.mul_le_mul_right l.n (hr i)
        have := La.ix_lt hl i
        rw [Nat.succ_mul] at h4; omega
      · show (((r i * l.n + l.ix i) / l.n : Nat) : Int) ∈ _
        rw [hdiv]; exact hm
def accL (b : Bu) (l : La) : Prop := ∃ s ∈ b.start, LiveG (PE b l) b.sets.length (PM b l) (s.toNat * l.n)
theorem accL_iff {b : Bu} {l : La} (h : ValidB b) (hl : 0 < l.loop.length) : accL b l ↔ Acc b l.at := by
  constructor
  · rintro ⟨s, h1, h2⟩
    have := h.st s h1
    exact ⟨s.toNat, by rw [Int.toNat_of_nonneg this.1]; exact h1, (live_run h hl).1 h2⟩
  · rintro ⟨s, h1, h2⟩
    exact ⟨s, h1, (live_run h hl).2 h2⟩
end Go.Lx


namespace Go.Lx
open Go.RowKit
def edC (e : Ed) : List Value := [.int .i64 e.fr, .int .i64 e.to, .int .u8 (e.pos : Int), .int .u8 (e.neg : Int)]
def edsC (es : List Ed) : List Value := es.flatMap edC
theorem eds_len (es : List Ed) : (edsC es).length = es.length * 4 := by
  induction es with
  | nil => rfl
  | cons e es ih => simp only [edsC, List.flatMap_cons, List.length_append] at ih ⊢; simp [edC, ih]; omega
theorem eds_get' : ∀ {es : List Ed} {i : Nat} (h : i < es.length) (j : Nat), j < 4 → (edsC es)[i * 4 + j]? = (edC es[i])[j]?
  | e :: es, 0, _, j, hj => by
    simp only [edsC, List.flatMap_cons, List.getElem_cons_zero]
    rw [List.getElem?_append_left (by simp [edC]; omega)]; simp
  | e :: es, i + 1, h, j, hj => by
    have ih := eds_get' (es := es) (i := i) (by simpa using h) j hj
    simp only [edsC, List.flatMap_cons, List.getElem_cons_succ] at ih ⊢
    rw [List.getElem?_append_right (by simp [edC]; omega)]
    simp only [edC, List.length_cons, List.length_nil] at ih ⊢
    rw [← ih]; congr 1; omega
theorem eds_get {es : List Ed} {i : Nat} (h : i < es.length) : ∀ j (hj : j < [Value.int .i64 es[i].fr, .int .i64 es[i].to, .int .u8 ((es[i].pos : Nat) : Int), .int .u8 ((es[i].neg : Nat) : Int)].length), (edsC es)[i * 4 + j]? = some [Value.int .i64 es[i].fr, .int .i64 es[i].to, .int .u8 ((es[i].pos : Nat) : Int), .int .u8 ((es[i].neg : Nat) : Int)][j] := fun j hj => by
  rw [eds_get' h j (by simpa using hj)]
  exact List.getElem?_eq_getElem (l := edC es[i]) hj
theorem eds_append (a b : List Ed) : edsC (a ++ b) = edsC a ++ edsC b := by simp [edsC]
theorem eds_one (es : List Ed) : ((edsC es).all oneB) = true := by
  simp only [List.all_eq_true, edsC, List.mem_flatMap]
  rintro v ⟨e, _, hv⟩
  simp [edC] at hv
  rcases hv with rfl | rfl | rfl | rfl <;> rfl
structure BuAt (w : World) (b : Bu) (sb eb tb : Option Addr) (vs : List Value) : Prop where
  st : Sl w sb (ints b.start)
  ed : Sl w eb (edsC b.edges)
  out : Sl w tb vs
  rows : RowsR w vs b.sets
@[simp] abbrev buCells (b : Bu) (sb : Option Addr) (sc : Nat) (eb : Option Addr) (ec : Nat) (tb : Option Addr) (tc : Nat) : List Value := [.int .i64 b.vars, .int .i64 b.states, .slice sb b.start.length sc, .slice eb b.edges.length ec, .slice tb b.sets.length tc]
theorem BuAt.keep {w w' : World} {b : Bu} {sb eb tb : Option Addr} {vs : List Value} (h : BuAt w b sb eb tb vs) (hb : ∀ k, k < w.heap.size → w'.heap[k]? = w.heap[k]?) : BuAt w' b sb eb tb vs :=
  ⟨h.st.keep hb, h.ed.keep hb, h.out.keep hb, h.rows.keep hb⟩
theorem Inv.bu {base : World} {O : List Item} {w : World} (hI : Inv base O w) {b : Bu} {sb eb tb : Option Addr} {vs : List Value} (h : BuAt base b sb eb tb vs) : BuAt w b sb eb tb vs := h.keep hI.below.block
structure BuB (b : Bu) : Prop where
  st : b.start.length ≤ 1000000
  ed : b.edges.length ≤ 1000000
  se : b.sets.length ≤ 1000000
  sr : ∀ r ∈ b.sets, r.length ≤ 1000000
  pn : ∀ e ∈ b.edges, e.pos < 256 ∧ e.neg < 256
theorem La.ix_pre {l : La} {i : Nat} (h : i < l.pre.length) : l.ix i = i := by unfold La.ix; rw [if_pos h]
theorem La.ix_loop {l : La} {i : Nat} (h0 : 0 < l.loop.length) (h : l.pre.length ≤ i) : l.ix i = l.pre.length + (i - l.pre.length) % l.loop.length := by
  unfold La.ix; rw [if_neg (by omega), show max l.loop.length 1 = l.loop.length by omega]
theorem La.at_pre {l : La} {i : Nat} (h : i < l.pre.length) : l.at i = l.pre[i] := by unfold La.at; rw [if_pos h]; simp [h]
theorem La.at_loop {l : La} {i : Nat} (h0 : 0 < l.loop.length) (h : l.pre.length ≤ i) : l.at i = l.loop[(i - l.pre.length) % l.loop.length]'(Nat.mod_lt _ h0) := by
  unfold La.at; rw [if_neg (by omega), show max l.loop.length 1 = l.loop.length by omega]
  have := Nat.mod_lt (i - l.pre.length) h0
  simp [this]
theorem La.at_lt {l : La} {n : Nat} (h0 : 0 < l.loop.length) (hp : ∀ x ∈ l.pre, x < n) (hl : ∀ x ∈ l.loop, x < n) (i : Nat) : l.at i < n := by
  by_cases h : i < l.pre.length
  · rw [La.at_pre h]; exact hp _ (List.getElem_mem h)
  · rw [La.at_loop h0 (by omega)]; exact hl _ (List.getElem_mem _)
structure LaAt (w : World) (l : La) (pb lb : Option Addr) (pc lc : Nat) : Prop where
  pre : Sl w pb (byts l.pre)
  loop : Sl w lb (byts l.loop)
  pc : l.pre.length ≤ pc
  lc : l.loop.length ≤ lc
@[simp] abbrev laCells (l : La) (pb : Option Addr) (pc : Nat) (lb : Option Addr) (lc : Nat) : List Value := [.slice pb l.pre.length pc, .slice lb l.loop.length lc]
theorem LaAt.keep {w w' : World} {l : La} {pb lb : Option Addr} {pc lc : Nat} (h : LaAt w l pb lb pc lc) (hb : ∀ k, k < w.heap.size → w'.heap[k]? = w.heap[k]?) : LaAt w' l pb lb pc lc := ⟨h.pre.keep hb, h.loop.keep hb, h.pc, h.lc⟩
theorem Inv.la {base : World} {O : List Item} {w : World} (hI : Inv base O w) {l : La} {pb lb : Option Addr} {pc lc : Nat} (h : LaAt base l pb lb pc lc) : LaAt w l pb lb pc lc := h.keep hI.below.block
structure LaB (l : La) : Prop where
  pre : l.pre.length ≤ 1000000
  loop : l.loop.length ≤ 1000000
  p8 : ∀ x ∈ l.pre, x < 256
  l8 : ∀ x ∈ l.loop, x < 256
abbrev fn (l : List Nat) : Nat → Nat := fun v => l.getD v 0
theorem fn_set {l : List Nat} {v a : Nat} (h : v < l.length) (x : Nat) : fn (l.set v a) x = if x = v then a else fn l x := by
  show (l.set v a).getD x 0 = _
  rw [List.getD_eq_getElem?_getD, List.getElem?_set]
  by_cases e : v = x
  · subst e; simp [h]
  · rw [if_neg e, if_neg (fun h => e h.symm)]; simp
theorem fn_get {l : List Nat} {v : Nat} (h : v < l.length) : fn l v = l[v] := by show l.getD v 0 = _; simp [h]
abbrev fz (l : List Int) : Nat → Int := fun v => l.getD v (-1)
theorem fz_set {l : List Int} {v : Nat} {a : Int} (h : v < l.length) (x : Nat) : fz (l.set v a) x = if x = v then a else fz l x := by
  show (l.set v a).getD x (-1) = _
  rw [List.getD_eq_getElem?_getD, List.getElem?_set]
  by_cases e : v = x
  · subst e; simp [h]
  · rw [if_neg e, if_neg (fun h => e h.symm)]; simp
theorem fz_get {l : List Int} {v : Nat} (h : v < l.length) : fz l v = l[v] := by show l.getD v (-1) = _; simp [h]
abbrev fb (l : List Bool) : Nat → Bool := fun v => l.getD v false
theorem fb_set {l : List Bool} {v : Nat} {a : Bool} (h : v < l.length) (x : Nat) : fb (l.set v a) x = if x = v then a else fb l x := by
  show (l.set v a).getD x false = _
  rw [List.getD_eq_getElem?_getD, List.getElem?_set]
  by_cases e : v = x
  · subst e; simp [h]
  · rw [if_neg e, if_neg (fun h => e h.symm)]; simp
abbrev uns (l : List Nat) : List Value := l.map fun x : Nat => Value.int .u64 (x : Int)
theorem uns_get {l : List Nat} {i : Nat} (h : i < l.length := by first | assumption | omega | (simp; omega) | simp_all) : (uns l)[i]? = some (.int .u64 ((l[i] : Nat) : Int)) := by simp [h]
abbrev nilRec : Rec := ⟨none, 0, []⟩
theorem Inv.nilRows {base : World} {O : List Item} {w : World} (h : Inv base O w) (E : TypeId) : ∀ n : Nat, Inv base (itms E (List.replicate n nilRec) ++ O) w
  | 0 => h
  | n + 1 => by
    have := (Inv.nilRows h E n).nilRow E 1
    exact this
theorem T.nilRows {P : Program} {r : Option Nat} {base : World} {n : Nat} {c : Code} {Q : Post} {ρ : Env} {O : List Item} (E : TypeId) (k : Nat) (h : T P r base n c Q ρ (O ++ itms E (List.replicate k nilRec))) : T P r base n c Q ρ O :=
  fun a w M D hM ha hi => h a w M D hM ha ((hi.nilRows E k).perm (by
    have h1 : (O ++ itms E (List.replicate k nilRec)).Perm (itms E (List.replicate k nilRec) ++ O) := List.perm_append_comm
    have h2 := h1.append_right (mI D ++ M)
    rw [List.append_assoc (itms E (List.replicate k nilRec)) O] at h2
    exact h2))
theorem itms_at {E : TypeId} {qs : List Rec} {c : Nat} (h : c < qs.length) {X : List Item} : rowI qs[c].b qs[c].c E 1 (ints qs[c].xs) ∈ X ++ itms E qs := List.mem_append_right _ (List.mem_map.2 ⟨qs[c], List.getElem_mem h, rfl⟩)
theorem vals_at {qs : List Rec} {c : Nat} (h : c < qs.length) : (vals qs)[c]? = some (.slice qs[c].b qs[c].xs.length qs[c].c) := by simp [h, Rec.val]
theorem itms_out {E : TypeId} : ∀ {qs : List Rec} {c : Nat} (h : c < qs.length), (itms E qs).Perm (qs[c].itm E :: itms E (qs.eraseIdx c))
  | q :: qs, 0, _ => by simp
  | q :: qs, c + 1, h => by
    have ih := itms_out (E := E) (qs := qs) (c := c) (by simpa using h)
    simp only [itms, List.map_cons, List.eraseIdx_cons_succ, List.getElem_cons_succ] at ih ⊢
    exact (ih.cons _).trans (List.Perm.swap _ _ _)
theorem sub_out {E : TypeId} {qs : List Rec} {c : Nat} (h : c < qs.length) (X : List Item) : Sub (qs[c].itm E :: (X ++ itms E (qs.eraseIdx c))) (X ++ itms E qs) := by
  refine ⟨X ++ itms E qs, ?_, List.Sublist.refl _⟩
  exact ((List.perm_middle (a := qs[c].itm E) (l₁ := X)).symm).trans ((itms_out h).symm.append_left X)
theorem sub_in {E : TypeId} {qs : List Rec} {c : Nat} (h : c < qs.length) (X : List Item) (q : Rec) {cs : List Value} (hc : cs = ints q.xs) : Sub (X ++ itms E (qs.set c q)) (rowI q.b q.c E 1 cs :: (X ++ itms E (qs.eraseIdx c))) := by
  subst hc
  have h1 := itms_out (E := E) (qs := qs.set c q) (c := c) (by simpa using h)
  rw [List.getElem_set_self, List.eraseIdx_set_eq] at h1
  refine ⟨_, ?_, List.Sublist.refl _⟩
  exact (h1.append_left X).trans (List.perm_middle (a := q.itm E) (l₁ := X))
theorem nums_set {qs : List Rec} {c : Nat} {q : Rec} : nums (qs.set c q) = (nums qs).set c q.xs := by simp [nums]
theorem RowsR.cons {w : World} {vs : List Value} {rs : List (List Int)} (h : RowsR w vs rs) {b : Option Addr} {c : Nat} {xs : List Int} (hs : Sl w b (ints xs)) : RowsR w (.slice b xs.length c :: vs) (xs :: rs) :=
  ⟨by simp [h.1], fun i r hr => by
    cases i with
    | zero => simp at hr; subst hr; exact ⟨b, c, rfl, hs⟩
    | succ i => exact h.2 i r (by simpa using hr)⟩
theorem RowsR.one {w : World} {vs : List Value} {rs : List (List Int)} (h : RowsR w vs rs) : (vs.all oneB) = true := by
  rw [List.all_eq_true]
  intro v hv
  obtain ⟨i, hi, rfl⟩ := List.mem_iff_getElem.1 hv
  obtain ⟨b, c, g, _⟩ := h.get (i := i) (by rw [← h.1]; exact hi)
  rw [List.getElem?_eq_getElem hi] at g
  rw [Option.some.inj g]; rfl
structure BuRef where
  b : Bu
  sb : Option Addr
  sc : Nat
  eb : Option Addr
  ec : Nat
  tb : Option Addr
  tc : Nat
  vs : List Value
def BuRef.cells (q : BuRef) : List Value := buCells q.b q.sb q.sc q.eb q.ec q.tb q.tc
structure LaRef where
  l : La
  pb : Option Addr
  pc : Nat
  lb : Option Addr
  lc : Nat
def LaRef.cells (q : LaRef) : List Value := laCells q.l q.pb q.pc q.lb q.lc
theorem flat_get {α : Type} {F : α → List Value} {k : Nat} (hF : ∀ a, (F a).length = k) : ∀ {qs : List α} {i : Nat} (h : i < qs.length) (j : Nat), j < k → (qs.flatMap F)[i * k + j]? = (F qs[i])[j]?
  | e :: es, 0, _, j, hj => by
    simp only [List.flatMap_cons, List.getElem_cons_zero]
    rw [List.getElem?_append_left (by rw [hF]; omega)]; simp
  | e :: es, i + 1, h, j, hj => by
    have ih := flat_get hF (qs := es) (i := i) (by simpa using h) j hj
    simp only [List.flatMap_cons, List.getElem_cons_succ] at ih ⊢
    have : (i + 1) * k + j = i * k + j + k := by rw [Nat.add_mul, Nat.one_mul]; omega
    rw [List.getElem?_append_right (by rw [hF]; omega), hF, ← ih]; congr 1; omega
theorem flat_len {α : Type} {F : α → List Value} {k : Nat} (hF : ∀ a, (F a).length = k) : ∀ (qs : List α), (qs.flatMap F).length = qs.length * k
  | [] => by simp
  | q :: qs => by rw [List.flatMap_cons, List.length_append, hF, flat_len hF qs, List.length_cons, Nat.add_mul]; omega
theorem any_snoc {α : Type} {l : List α} {k : Nat} (h : k < l.length) {p : α → Bool} (h1 : (l.take k).any p = false) (h2 : p l[k] = false) : (l.take (k + 1)).any p = false := by
  rw [List.take_succ_eq_append_getElem h, List.any_append, h1]; simp [h2]
theorem any_hit {α : Type} {l : List α} {k : Nat} (h : k < l.length) {p : α → Bool} (h2 : p l[k] = true) : l.any p = true := List.any_eq_true.2 ⟨_, List.getElem_mem h, h2⟩
theorem any_done {α : Type} {l : List α} {k : Nat} (h : ¬ k < l.length) {p : α → Bool} (h1 : (l.take k).any p = false) : l.any p = false := by rwa [List.take_of_length_le (by omega)] at h1
end Go.Lx


namespace Go.Proofs.Ytnamoapbienooaa
open Go.Lx Go.RowKit
set_option linter.unusedVariables false
set_option linter.unusedSimpArgs false
theorem edgeT : EdgeX Try.prog 54 := ⟨_, _, _, _, { under := Try.underlying54, u1 := Try.underlying3, u2 := Try.underlying3, u3 := Try.underlying5, u4 := Try.underlying5, o1 := rfl, o2 := rfl, o3 := rfl, o4 := rfl, n1 := by decide, n2 := by decide, n3 := by decide, n4 := by decide, held := by kernel_rfl, guard := by kernel_rfl }⟩
set_option maxHeartbeats 1000000 in
set_option maxRecDepth 20000 in
theorem equalInts (w : World) (b1 b2 : Option Addr) (c1 c2 : Nat) (xs ys : List Int) (h1 : Sl w b1 (ints xs)) (h2 : Sl w b2 (ints ys)) (hb : xs.length < 9223372036854775807) :
    PureT Try.prog 47 [(.slice b1 xs.length c1), (.slice b2 ys.length c2)] w fun v N => v = .bool (decide (xs = ys)) ∧ N = [] := by
  refine CallT.enter Try.func47 rfl Try.ntmps47 rfl ?_
  refine T.seq (T.region ?_)
  refine TO.quiet (q_assign rfl) ?_
  refine TO.nil (T.seq (T.seq (T.region ?_)))
  refine TO.quiet (q_move rfl) (TO.quiet (q_len Try.underlying22 rfl) (TO.quiet (q_move rfl) (TO.quiet (q_len Try.underlying22 rfl) ?_)))
  refine TO.quiet (q_neq rfl rfl) ?_
  refine TO.nil ?_
  refine T.condP rfl (fun hc => ?_) (fun hc => ?_)
  · have hlt10 : xs.length ≠ ys.length := by omega
    have hlen : xs.length ≠ ys.length := by omega
    refine T.seq (T.region ?_)
    refine TO.quiet (q_assign rfl) ?_
    refine TO.nil (T.ret ?_)
    refine Res.one (.bool false) Try.results47 rfl ?_
    exact ⟨congrArg Value.bool (decide_eq_false (fun e => hlen (by rw [e]))).symm, rfl⟩
  have hge10 : ¬ xs.length ≠ ys.length := by omega
  have hlen : xs.length = ys.length := by omega
  refine T.skip (T.seq (T.seq (T.region ?_)))
  refine TO.quiet (q_assign rfl) ?_
  refine TO.nil (T.block ?_)
  refine T.loop (fun (k : Nat) ρ O => O = [] ∧ k ≤ xs.length ∧ xs.take k = ys.take k ∧ Heads [(0, (.slice b1 xs.length c1)), (1, (.slice b2 ys.length c2)), (5, .int .i64 (k : Int))] ρ) (fun k => xs.length - k) 0 ?_ ?_
  · exact ⟨rfl, Nat.zero_le _, rfl, ⟨rfl, rfl, rfl, trivial⟩⟩
  rintro k ρ O ⟨rfl, hk, he, hH⟩
  obtain ⟨ρ0, rfl⟩ := hH.elim
  clear hH
  refine T.seq (T.seq (T.region ?_))
  refine TO.quiet (q_move rfl) (TO.quiet (q_move rfl) (TO.quiet (q_len Try.underlying22 rfl) (TO.quiet (q_lss rfl rfl) ?_)))
  refine TO.nil ?_
  refine T.condP rfl (fun hc => ?_) (fun hc => ?_)
  · have hlt14 : k < xs.length := by omega
    have hlt : k < xs.length := by omega
    have hlt2 : k < ys.length := by omega
    obtain ⟨kb1, ko1, rfl⟩ := h1.addr (i := k) (by simpa using hlt)
    obtain ⟨kb2, ko2, rfl⟩ := h2.addr (i := k) (by simpa using hlt2)
    refine T.skip (T.seq (T.block (T.seq ?_)))
    refine T.draws _ [(0, 0), (1, 0), (2, 0), (3, 0), (4, 0), (5, 0), (6, 0), (7, 0), (8, 0)] mixed (by kernel_rfl) (Sub.of (List.Sublist.refl _)) (fun _ _ _ h => h) ?_
    refine DO.quiet rfl (q_move rfl) (DO.quiet rfl (q_move rfl) (DO.quiet rfl (q_idx Try.underlying22 inf3 rfl rfl hlt) (DO.quiet rfl (q_load_sl Try.underlying3 rfl rfl h1 (ints_get hlt)) ?_)))
    refine DO.quiet rfl (q_move rfl) (DO.quiet rfl (q_move rfl) (DO.quiet rfl (q_idx Try.underlying22 inf3 rfl rfl hlt2) (DO.quiet rfl (q_load_sl Try.underlying3 rfl rfl h2 (ints_get hlt2)) ?_)))
    refine DO.quiet rfl (q_neq rfl rfl) ?_
    refine DO.done ?_
    refine T.condP (p := ¬ xs[k] = ys[k]) rfl (fun hc => ?_) (fun hc => ?_)
    · refine T.seq ?_
      refine T.region ?_
      refine TO.quiet (q_assign rfl) ?_
      refine TO.nil (T.ret ?_)
      refine Res.one (.bool false) Try.results47 rfl ?_
      exact ⟨congrArg Value.bool (decide_eq_false (fun e => hc (by subst e; rfl))).symm, rfl⟩
    refine T.skip (T.region ?_)
    refine TO.quiet (q_move rfl) (TO.quiet (q_inc rfl rfl (by omega)) (TO.quiet (q_assign rfl) ?_))
    refine TO.nil ?_
    refine ⟨k + 1, by omega, rfl, by omega, ?_, ⟨rfl, rfl, rfl, trivial⟩⟩
    rw [List.take_succ_eq_append_getElem hlt, List.take_succ_eq_append_getElem hlt2, he]
    exact congrArg _ (congrArg (fun z => [z]) (Classical.not_not.1 hc))
  have hge14 : ¬ k < xs.length := by omega
  refine T.exit ?_
  refine T.seq (T.region ?_)
  refine TO.quiet (q_assign rfl) ?_
  refine TO.nil (T.ret ?_)
  refine Res.one (.bool true) Try.results47 rfl ?_
  exact ⟨congrArg Value.bool (decide_eq_true (show xs = ys by rw [List.take_of_length_le (by omega), List.take_of_length_le (by omega)] at he; exact he)).symm, rfl⟩
set_option maxHeartbeats 1000000 in
set_option maxRecDepth 20000 in
theorem equalBools (w : World) (b1 b2 : Option Addr) (c1 c2 : Nat) (xs ys : List Bool) (h1 : Sl w b1 (bools xs)) (h2 : Sl w b2 (bools ys)) (hb : xs.length < 9223372036854775807) :
    PureT Try.prog 23 [(.slice b1 xs.length c1), (.slice b2 ys.length c2)] w fun v N => v = .bool (decide (xs = ys)) ∧ N = [] := by
  refine CallT.enter Try.func23 rfl Try.ntmps23 rfl ?_
  refine T.seq (T.region ?_)
  refine TO.quiet (q_assign rfl) ?_
  refine TO.nil (T.seq (T.seq (T.region ?_)))
  refine TO.quiet (q_move rfl) (TO.quiet (q_len Try.underlying39 rfl) (TO.quiet (q_move rfl) (TO.quiet (q_len Try.underlying39 rfl) ?_)))
  refine TO.quiet (q_neq rfl rfl) ?_
  refine TO.nil ?_
  refine T.condP rfl (fun hc => ?_) (fun hc => ?_)
  · have hlt10 : xs.length ≠ ys.length := by omega
    have hlen : xs.length ≠ ys.length := by omega
    refine T.seq (T.region ?_)
    refine TO.quiet (q_assign rfl) ?_
    refine TO.nil (T.ret ?_)
    refine Res.one (.bool false) Try.results23 rfl ?_
    exact ⟨congrArg Value.bool (decide_eq_false (fun e => hlen (by rw [e]))).symm, rfl⟩
  have hge10 : ¬ xs.length ≠ ys.length := by omega
  have hlen : xs.length = ys.length := by omega
  refine T.skip (T.seq (T.seq (T.region ?_)))
  refine TO.quiet (q_assign rfl) ?_
  refine TO.nil (T.block ?_)
  refine T.loop (fun (k : Nat) ρ O => O = [] ∧ k ≤ xs.length ∧ xs.take k = ys.take k ∧ Heads [(0, (.slice b1 xs.length c1)), (1, (.slice b2 ys.length c2)), (5, .int .i64 (k : Int))] ρ) (fun k => xs.length - k) 0 ?_ ?_
  · exact ⟨rfl, Nat.zero_le _, rfl, ⟨rfl, rfl, rfl, trivial⟩⟩
  rintro k ρ O ⟨rfl, hk, he, hH⟩
  obtain ⟨ρ0, rfl⟩ := hH.elim
  clear hH
  refine T.seq (T.seq (T.region ?_))
  refine TO.quiet (q_move rfl) (TO.quiet (q_move rfl) (TO.quiet (q_len Try.underlying39 rfl) (TO.quiet (q_lss rfl rfl) ?_)))
  refine TO.nil ?_
  refine T.condP rfl (fun hc => ?_) (fun hc => ?_)
  · have hlt14 : k < xs.length := by omega
    have hlt : k < xs.length := by omega
    have hlt2 : k < ys.length := by omega
    obtain ⟨kb1, ko1, rfl⟩ := h1.addr (i := k) (by simpa using hlt)
    obtain ⟨kb2, ko2, rfl⟩ := h2.addr (i := k) (by simpa using hlt2)
    refine T.skip (T.seq (T.block (T.seq ?_)))
    refine T.draws _ [(0, 0), (1, 0), (2, 0), (3, 0), (4, 0), (5, 0), (6, 0), (7, 0), (8, 0)] mixed (by kernel_rfl) (Sub.of (List.Sublist.refl _)) (fun _ _ _ h => h) ?_
    refine DO.quiet rfl (q_move rfl) (DO.quiet rfl (q_move rfl) (DO.quiet rfl (q_idx Try.underlying39 inf4 rfl rfl hlt) (DO.quiet rfl (q_load_sl Try.underlying4 rfl rfl h1 (bools_get hlt)) ?_)))
    refine DO.quiet rfl (q_move rfl) (DO.quiet rfl (q_move rfl) (DO.quiet rfl (q_idx Try.underlying39 inf4 rfl rfl hlt2) (DO.quiet rfl (q_load_sl Try.underlying4 rfl rfl h2 (bools_get hlt2)) ?_)))
    refine DO.quiet rfl (q_bneq Try.underlying4 rfl rfl) ?_
    refine DO.done ?_
    refine T.condP (p := ¬ xs[k] = ys[k]) (congrArg Value.bool (by cases xs[k] <;> cases ys[k] <;> rfl)) (fun hc => ?_) (fun hc => ?_)
    · refine T.seq ?_
      refine T.region ?_
      refine TO.quiet (q_assign rfl) ?_
      refine TO.nil (T.ret ?_)
      refine Res.one (.bool false) Try.results23 rfl ?_
      exact ⟨congrArg Value.bool (decide_eq_false (fun e => hc (by subst e; rfl))).symm, rfl⟩
    refine T.skip (T.region ?_)
    refine TO.quiet (q_move rfl) (TO.quiet (q_inc rfl rfl (by omega)) (TO.quiet (q_assign rfl) ?_))
    refine TO.nil ?_
    refine ⟨k + 1, by omega, rfl, by omega, ?_, ⟨rfl, rfl, rfl, trivial⟩⟩
    rw [List.take_succ_eq_append_getElem hlt, List.take_succ_eq_append_getElem hlt2, he]
    exact congrArg _ (congrArg (fun z => [z]) (Classical.not_not.1 hc))
  have hge14 : ¬ k < xs.length := by omega
  refine T.exit ?_
  refine T.seq (T.region ?_)
  refine TO.quiet (q_assign rfl) ?_
  refine TO.nil (T.ret ?_)
  refine Res.one (.bool true) Try.results23 rfl ?_
  exact ⟨congrArg Value.bool (decide_eq_true (show xs = ys by rw [List.take_of_length_le (by omega), List.take_of_length_le (by omega)] at he; exact he)).symm, rfl⟩
end Go.Proofs.Ytnamoapbienooaa


namespace Go.Proofs.Ytnamoapbienooaa
open Go.Lx Go.RowKit
set_option linter.unusedVariables false
set_option linter.unusedSimpArgs false
set_option maxHeartbeats 1000000 in
set_option maxRecDepth 20000 in
theorem indexFuncB (base : World) (b : Option Addr) (c : Nat) (xs : List Nat) (OO : List Lx.Item) (hS : ∀ w, Inv base OO w → Sl w b (byts xs)) (hb : xs.length < 9223372036854775807) (fv : Value) (p : Nat → Bool) (hy : ∀ x ∈ xs, CallV Try.prog base fv [.int .u8 (x : Int)] OO (fun v O' => v = .bool (p x) ∧ O' = OO)) :
    CallT Try.prog base 112 [.slice b xs.length c, fv] OO (fun v O' => ∃ i : Int, v = .int .i64 i ∧ ((i = -1 ∧ xs.any p = false) ∨ ∃ (k : Nat) (hk : k < xs.length), i = (k : Int) ∧ p xs[k] = true ∧ (xs.take k).any p = false) ∧ O' = OO) := by
  refine CallT.enter Try.func112 rfl Try.ntmps112 rfl ?_
  refine T.seq (T.region ?_)
  refine TO.quiet (q_assign rfl) ?_
  refine TO.nil (T.seq (T.seq (T.region ?_)))
  refine TO.quiet (q_move rfl) (TO.quiet (q_len Try.underlying27 rfl) (TO.quiet (q_move rfl) ?_))
  refine TO.nil (T.block ?_)
  refine T.loop (fun (k : Nat) ρ O => O = ([] ++ OO) ∧ k ≤ xs.length ∧ (xs.take k).any p = false ∧ Heads [(0, (.slice b xs.length c)), (1, fv), (7, .int .i64 (xs.length : Int)), (8, .int .i64 (k : Int))] ρ) (fun k => xs.length - k) 0 ?_ ?_
  · exact ⟨rfl, Nat.zero_le _, rfl, ⟨rfl, rfl, rfl, rfl, trivial⟩⟩
  rintro k ρ O ⟨rfl, hk, hany, hH⟩
  obtain ⟨ρ0, rfl⟩ := hH.elim
  clear hH
  refine T.seq (T.region ?_)
  refine TO.quiet (q_lss rfl rfl) ?_
  refine TO.nil (T.seq ?_)
  refine T.condP rfl (fun hc => ?_) (fun hc => ?_)
  · have hlt9 : k < xs.length := by omega
    refine T.skip (T.seq (T.block (T.seq (T.region ?_))))
    refine TO.quiet (q_move rfl) (TO.quiet (q_assign rfl) ?_)
    refine TO.nil (T.seq (T.region ?_))
    refine TO.quiet (q_move rfl) (TO.quiet (q_move rfl) (TO.quiet (q_move rfl) (TO.quiet (q_ix (i := k) Try.underlying27 inf5 rfl rfl hS hlt9 (by rw [List.length_map]; exact hlt9)) ?_)))
    refine TO.quiet (q_ld Try.underlying5 rfl rfl hS (byts_get hlt9)) ?_
    have hk16 := hy xs[k] (List.getElem_mem hlt9)
    refine TO.loud rfl (l_callG hk16 rfl rfl ?_)
    clear hk16
    rintro vr O' ⟨rfl, rfl⟩
    refine TO.nil ?_
    refine T.cond rfl (fun hc => ?_) (fun hc => ?_)
    · refine T.seq ?_
      refine T.region ?_
      refine TO.quiet (q_move rfl) (TO.quiet (q_assign rfl) ?_)
      refine TO.nil (T.ret (Res.drop ?_))
      refine Res.one (.int .i64 (k : Int)) Try.results112 rfl ?_
      exact ⟨_, Sub.of (List.Sublist.refl _), k, rfl, .inr ⟨k, hlt9, rfl, hc, hany⟩, rfl⟩
    refine T.skip (T.region ?_)
    refine TO.quiet (q_addN (a := k) (b := 1) rfl rfl (by omega)) (TO.quiet (q_move rfl) ?_)
    refine TO.nil ?_
    exact ⟨k + 1, by omega, rfl, by omega, any_snoc hlt9 hany (by simpa using hc), ⟨rfl, rfl, rfl, rfl, trivial⟩⟩
  have hge9 : ¬ k < xs.length := by omega
  refine T.exit ?_
  refine T.seq (T.region ?_)
  refine TO.quiet (q_assign rfl) ?_
  refine TO.nil (T.ret (Res.drop ?_))
  refine Res.one (.int .i64 (-1)) Try.results112 rfl ?_
  exact ⟨_, Sub.of (List.Sublist.refl _), -1, rfl, .inl ⟨rfl, any_done (by omega) hany⟩, rfl⟩
set_option maxHeartbeats 1000000 in
set_option maxRecDepth 20000 in
theorem containsFuncB (base : World) (b : Option Addr) (c : Nat) (xs : List Nat) (OO : List Lx.Item) (hS : ∀ w, Inv base OO w → Sl w b (byts xs)) (hb : xs.length < 9223372036854775807) (fv : Value) (p : Nat → Bool) (hy : ∀ x ∈ xs, CallV Try.prog base fv [.int .u8 (x : Int)] OO (fun v O' => v = .bool (p x) ∧ O' = OO)) :
    CallT Try.prog base 98 [.slice b xs.length c, fv] OO (fun v O' => v = .bool (xs.any p) ∧ O' = OO) := by
  refine CallT.enter Try.func98 rfl Try.ntmps98 rfl ?_
  refine T.seq (T.region ?_)
  refine TO.quiet (q_assign rfl) ?_
  refine TO.nil (T.seq (T.region ?_))
  refine TO.quiet (q_move rfl) (TO.quiet (q_move rfl) ?_)
  have hk7 := indexFuncB base b c xs OO hS hb fv p hy
  refine TO.loud rfl (l_call ent112 hk7 rfl ?_)
  clear hk7
  rintro vr O' ⟨i, rfl, hi, rfl⟩
  refine TO.quiet (q_geq rfl rfl) (TO.quiet (q_assign rfl) ?_)
  refine TO.nil (T.ret (Res.drop ?_))
  refine Res.one (.bool (decide (i ≥ 0))) Try.results98 rfl ?_
  refine ⟨_, Sub.of (List.Sublist.refl _), congrArg Value.bool ?_, rfl⟩
  rcases hi with ⟨rfl, h9⟩ | ⟨k, hk, rfl, h9, _⟩
  · rw [h9]; decide
  · rw [any_hit hk h9]; exact decide_eq_true (by omega)
set_option maxHeartbeats 1000000 in
set_option maxRecDepth 20000 in
theorem indexFuncI (base : World) (b : Option Addr) (c : Nat) (xs : List Int) (OO : List Lx.Item) (hS : ∀ w, Inv base OO w → Sl w b (ints xs)) (hb : xs.length < 9223372036854775807) (fv : Value) (p : Int → Bool) (hy : ∀ x ∈ xs, CallV Try.prog base fv [.int .i64 x] OO (fun v O' => v = .bool (p x) ∧ O' = OO)) :
    CallT Try.prog base 101 [.slice b xs.length c, fv] OO (fun v O' => ∃ i : Int, v = .int .i64 i ∧ ((i = -1 ∧ xs.any p = false) ∨ ∃ (k : Nat) (hk : k < xs.length), i = (k : Int) ∧ p xs[k] = true ∧ (xs.take k).any p = false) ∧ O' = OO) := by
  refine CallT.enter Try.func101 rfl Try.ntmps101 rfl ?_
  refine T.seq (T.region ?_)
  refine TO.quiet (q_assign rfl) ?_
  refine TO.nil (T.seq (T.seq (T.region ?_)))
  refine TO.quiet (q_move rfl) (TO.quiet (q_len Try.underlying22 rfl) (TO.quiet (q_move rfl) ?_))
  refine TO.nil (T.block ?_)
  refine T.loop (fun (k : Nat) ρ O => O = ([] ++ OO) ∧ k ≤ xs.length ∧ (xs.take k).any p = false ∧ Heads [(0, (.slice b xs.length c)), (1, fv), (7, .int .i64 (xs.length : Int)), (8, .int .i64 (k : Int))] ρ) (fun k => xs.length - k) 0 ?_ ?_
  · exact ⟨rfl, Nat.zero_le _, rfl, ⟨rfl, rfl, rfl, rfl, trivial⟩⟩
  rintro k ρ O ⟨rfl, hk, hany, hH⟩
  obtain ⟨ρ0, rfl⟩ := hH.elim
  clear hH
  refine T.seq (T.region ?_)
  refine TO.quiet (q_lss rfl rfl) ?_
  refine TO.nil (T.seq ?_)
  refine T.condP rfl (fun hc => ?_) (fun hc => ?_)
  · have hlt9 : k < xs.length := by omega
    refine T.skip (T.seq (T.block (T.seq (T.region ?_))))
    refine TO.quiet (q_move rfl) (TO.quiet (q_assign rfl) ?_)
    refine TO.nil (T.seq (T.region ?_))
    refine TO.quiet (q_move rfl) (TO.quiet (q_move rfl) (TO.quiet (q_move rfl) (TO.quiet (q_ix (i := k) Try.underlying22 inf3 rfl rfl hS hlt9 (by rw [List.length_map]; exact hlt9)) ?_)))
    refine TO.quiet (q_ld Try.underlying3 rfl rfl hS (ints_get hlt9)) ?_
    have hk16 := hy xs[k] (List.getElem_mem hlt9)
    refine TO.loud rfl (l_callG hk16 rfl rfl ?_)
    clear hk16
    rintro vr O' ⟨rfl, rfl⟩
    refine TO.nil ?_
    refine T.cond rfl (fun hc => ?_) (fun hc => ?_)
    · refine T.seq ?_
      refine T.region ?_
      refine TO.quiet (q_move rfl) (TO.quiet (q_assign rfl) ?_)
      refine TO.nil (T.ret (Res.drop ?_))
      refine Res.one (.int .i64 (k : Int)) Try.results101 rfl ?_
      exact ⟨_, Sub.of (List.Sublist.refl _), k, rfl, .inr ⟨k, hlt9, rfl, hc, hany⟩, rfl⟩
    refine T.skip (T.region ?_)
    refine TO.quiet (q_addN (a := k) (b := 1) rfl rfl (by omega)) (TO.quiet (q_move rfl) ?_)
    refine TO.nil ?_
    exact ⟨k + 1, by omega, rfl, by omega, any_snoc hlt9 hany (by simpa using hc), ⟨rfl, rfl, rfl, rfl, trivial⟩⟩
  have hge9 : ¬ k < xs.length := by omega
  refine T.exit ?_
  refine T.seq (T.region ?_)
  refine TO.quiet (q_assign rfl) ?_
  refine TO.nil (T.ret (Res.drop ?_))
  refine Res.one (.int .i64 (-1)) Try.results101 rfl ?_
  exact ⟨_, Sub.of (List.Sublist.refl _), -1, rfl, .inl ⟨rfl, any_done (by omega) hany⟩, rfl⟩
set_option maxHeartbeats 1000000 in
set_option maxRecDepth 20000 in
theorem containsFuncI (base : World) (b : Option Addr) (c : Nat) (xs : List Int) (OO : List Lx.Item) (hS : ∀ w, Inv base OO w → Sl w b (ints xs)) (hb : xs.length < 9223372036854775807) (fv : Value) (p : Int → Bool) (hy : ∀ x ∈ xs, CallV Try.prog base fv [.int .i64 x] OO (fun v O' => v = .bool (p x) ∧ O' = OO)) :
    CallT Try.prog base 56 [.slice b xs.length c, fv] OO (fun v O' => v = .bool (xs.any p) ∧ O' = OO) := by
  refine CallT.enter Try.func56 rfl Try.ntmps56 rfl ?_
  refine T.seq (T.region ?_)
  refine TO.quiet (q_assign rfl) ?_
  refine TO.nil (T.seq (T.region ?_))
  refine TO.quiet (q_move rfl) (TO.quiet (q_move rfl) ?_)
  have hk7 := indexFuncI base b c xs OO hS hb fv p hy
  refine TO.loud rfl (l_call ent101 hk7 rfl ?_)
  clear hk7
  rintro vr O' ⟨i, rfl, hi, rfl⟩
  refine TO.quiet (q_geq rfl rfl) (TO.quiet (q_assign rfl) ?_)
  refine TO.nil (T.ret (Res.drop ?_))
  refine Res.one (.bool (decide (i ≥ 0))) Try.results56 rfl ?_
  refine ⟨_, Sub.of (List.Sublist.refl _), congrArg Value.bool ?_, rfl⟩
  rcases hi with ⟨rfl, h9⟩ | ⟨k, hk, rfl, h9, _⟩
  · rw [h9]; decide
  · rw [any_hit hk h9]; exact decide_eq_true (by omega)
set_option maxHeartbeats 1000000 in
set_option maxRecDepth 20000 in
theorem tooGreat (base : World) (v : Int) (h0 : 0 ≤ v) (h6 : v ≤ 6) (bx x : Nat) (hx : x < 256) :
    CallT Try.prog base 97 [.int .u8 (x : Int), .pointer (some ⟨bx, 0, none⟩)] [oI bx 3 [(.int .i64 v)]] (fun z O' => z = .bool (decide (¬ x < 2 ^ v.toNat)) ∧ O' = [oI bx 3 [(.int .i64 v)]]) := by
  refine CallT.enter Try.func97 rfl Try.ntmps97 rfl ?_
  refine T.seq (T.region ?_)
  refine TO.quiet (q_assign rfl) ?_
  refine TO.nil (T.seq (T.region ?_))
  refine TO.quiet (q_move rfl) (TO.quiet (q_conv_id Try.underlying5 Try.underlying3 rfl (wrap64_id ⟨by omega, by omega⟩)) (TO.quiet (q_load_box 0 Try.underlying3 rfl rfl rfl rfl) (TO.quiet (q_shl1 (v := v.toNat) rfl (by show Value.int _ v = _; rw [Int.toNat_of_nonneg h0]) (by omega)) ?_)))
  refine TO.quiet (q_geq rfl rfl) (TO.quiet (q_assign rfl) ?_)
  refine TO.nil (T.ret ?_)
  refine Res.one (.bool (decide ((x : Int) ≥ ((2 ^ v.toNat : Nat) : Int)))) Try.results97 rfl ?_
  exact ⟨congrArg Value.bool (decide_eq_decide.2 (by omega)), rfl⟩
set_option maxHeartbeats 1000000 in
set_option maxRecDepth 20000 in
theorem lassoCheckF (w : World) (l : La) (pb lb : Option Addr) (pc lc : Nat) (h : LaAt w l pb lb pc lc) (hL : LaB l) (v : Int) :
    PureT Try.prog 51 [.agg (laCells l pb pc lb lc).toArray, .int .i64 v] w fun z N => z = .int .i64 (checkLV v l : Int) ∧ N = [] := by
  refine CallT.enter Try.func51 rfl Try.ntmps51 rfl ?_
  have hpl := hL.pre; have hll := hL.loop
  refine T.seq (T.region ?_)
  refine TO.loud rfl (l_box (v := (.agg (laCells l pb pc lb lc).toArray)) (cs := (laCells l pb pc lb lc)) rfl rfl (fun bx1 => ?_))
  refine TO.loud rfl (l_box (v := .int .i64 v) (cs := [(.int .i64 v)]) rfl rfl (fun bx2 => ?_))
  refine TO.quiet (q_assign rfl) ?_
  refine TO.nil (T.seq (T.block (T.seq (T.region ?_))))
  refine TO.quiet (q_load_box 0 Try.underlying3 rfl rfl rfl rfl) (TO.quiet (q_lss rfl rfl) ?_)
  by_cases hs9 : v < 0
  · refine TO.quiet (QT.toB (q_move rfl) (decide_eq_true hs9)) ?_
    refine TO.passed rfl rfl ?_
    refine TO.passed rfl rfl ?_
    refine TO.quiet (q_pick1 rfl rfl) (TO.quiet (q_assign rfl) ?_)
    refine TO.nil ?_
    refine T.cond1 rfl ?_
    refine T.seq (T.region ?_)
    refine TO.quiet (q_assign rfl) ?_
    refine TO.nil (T.ret (Res.drop ?_))
    refine Res.one (.int .i64 7) Try.results51 rfl ?_
    refine ⟨[], Sub.of (List.nil_sublist _), congrArg (fun z : Nat => Value.int .i64 (z : Int)) (Eq.symm (a := checkLV v l) (b := 7) ?_), rfl⟩
    unfold checkLV; rw [if_pos (by omega)]
  refine TO.quiet (QT.toB (q_move rfl) (decide_eq_false hs9)) ?_
  refine TO.guarded rfl rfl rfl (LT.of_quiet rfl rfl (q_load_box 0 Try.underlying3 rfl rfl rfl rfl) ?_)
  refine TO.guarded rfl rfl rfl (LT.of_quiet rfl rfl (q_gtr rfl rfl) ?_)
  refine TO.quiet (q_pick0 rfl rfl) (TO.quiet (q_assign rfl) ?_)
  refine TO.nil ?_
  refine T.condP rfl (fun hc => ?_) (fun hc => ?_)
  · refine T.seq ?_
    refine T.region ?_
    refine TO.quiet (q_assign rfl) ?_
    refine TO.nil (T.ret (Res.drop ?_))
    refine Res.one (.int .i64 7) Try.results51 rfl ?_
    refine ⟨[], Sub.of (List.nil_sublist _), congrArg (fun z : Nat => Value.int .i64 (z : Int)) (Eq.symm (a := checkLV v l) (b := 7) ?_), rfl⟩
    unfold checkLV; rw [if_pos (by omega)]
  refine T.seq (T.region ?_)
  refine TO.quiet (q_fieldAddr Try.underlying29 rfl inf27 rfl rfl) (TO.quiet (q_load_box 1 Try.underlying27 rfl rfl rfl rfl) (TO.quiet (q_len Try.underlying27 rfl) (TO.quiet (q_eql rfl rfl) ?_)))
  refine TO.quiet (q_assign rfl) ?_
  refine TO.nil ?_
  refine T.condP rfl (fun hc => ?_) (fun hc => ?_)
  · have hlt13 : l.loop.length = 0 := by omega
    refine T.seq (T.region ?_)
    refine TO.quiet (q_assign rfl) ?_
    refine TO.nil (T.ret (Res.drop ?_))
    refine Res.one (.int .i64 3) Try.results51 rfl ?_
    refine ⟨[], Sub.of (List.nil_sublist _), congrArg (fun z : Nat => Value.int .i64 (z : Int)) (Eq.symm (a := checkLV v l) (b := 3) ?_), rfl⟩
    unfold checkLV checkL; rw [if_neg (by omega), if_pos (by omega)]
  have hge13 : ¬ l.loop.length = 0 := by omega
  refine T.seq (T.region ?_)
  refine TO.quiet (q_fieldAddr Try.underlying29 rfl inf27 rfl rfl) (TO.quiet (q_load_box 1 Try.underlying27 rfl rfl rfl rfl) (TO.quiet (q_len Try.underlying27 rfl) (TO.quiet (q_gtr rfl rfl) ?_)))
  by_cases hs23 : (l.pre.length : Int) > 64
  · refine TO.quiet (QT.toB (q_move rfl) (decide_eq_true hs23)) ?_
    refine TO.passed rfl rfl ?_
    refine TO.passed rfl rfl ?_
    refine TO.passed rfl rfl ?_
    refine TO.passed rfl rfl ?_
    refine TO.quiet (q_pick1 rfl rfl) (TO.quiet (q_assign rfl) ?_)
    refine TO.nil ?_
    refine T.cond1 rfl ?_
    refine T.seq (T.region ?_)
    refine TO.quiet (q_assign rfl) ?_
    refine TO.nil (T.ret (Res.drop ?_))
    refine Res.one (.int .i64 4) Try.results51 rfl ?_
    refine ⟨[], Sub.of (List.nil_sublist _), congrArg (fun z : Nat => Value.int .i64 (z : Int)) (Eq.symm (a := checkLV v l) (b := 4) ?_), rfl⟩
    unfold checkLV checkL; rw [if_neg (by omega), if_neg (by omega), if_pos (by omega)]
  refine TO.quiet (QT.toB (q_move rfl) (decide_eq_false hs23)) ?_
  refine TO.guarded rfl rfl rfl (LT.of_quiet rfl rfl (q_fieldAddr Try.underlying29 rfl inf27 rfl rfl) ?_)
  refine TO.guarded rfl rfl rfl (LT.of_quiet rfl rfl (q_load_box 1 Try.underlying27 rfl rfl rfl rfl) ?_)
  refine TO.guarded rfl rfl rfl (LT.of_quiet rfl rfl (q_len Try.underlying27 rfl) ?_)
  refine TO.guarded rfl rfl rfl (LT.of_quiet rfl rfl (q_gtr rfl rfl) ?_)
  refine TO.quiet (q_pick0 rfl rfl) (TO.quiet (q_assign rfl) ?_)
  refine TO.nil ?_
  refine T.condP rfl (fun hc => ?_) (fun hc => ?_)
  · have hlt18 : l.loop.length > 64 := by omega
    refine T.seq (T.region ?_)
    refine TO.quiet (q_assign rfl) ?_
    refine TO.nil (T.ret (Res.drop ?_))
    refine Res.one (.int .i64 4) Try.results51 rfl ?_
    refine ⟨[], Sub.of (List.nil_sublist _), congrArg (fun z : Nat => Value.int .i64 (z : Int)) (Eq.symm (a := checkLV v l) (b := 4) ?_), rfl⟩
    unfold checkLV checkL; rw [if_neg (by omega), if_neg (by omega), if_pos (by omega)]
  have hge18 : ¬ l.loop.length > 64 := by omega
  refine T.skip (T.seq (T.region ?_))
  refine TO.quiet (q_makeFunc) (TO.quiet (q_assign rfl) ?_)
  refine TO.nil (T.seq (T.seq (T.region ?_)))
  refine TO.quiet (q_fieldAddr Try.underlying29 rfl inf27 rfl rfl) (TO.quiet (q_load_box 1 Try.underlying27 rfl rfl rfl rfl) (TO.quiet (q_move rfl) ?_))
  by_cases hp : l.pre.any (fun x => decide (¬ x < 2 ^ v.toNat)) = true
  · have hk33 := (containsFuncB w pb pc l.pre [oI bx2 3 [(.int .i64 v)], oI bx1 29 (laCells l pb pc lb lc)] (Sl.o h.pre) (by have := hL.pre; have := hL.loop; omega) (.func (.func 97) #[] #[.pointer (some ⟨bx2, 0, none⟩)]) (fun x => decide (¬ x < 2 ^ v.toNat)) (fun x hx => (CallV.under (A := [oI bx2 3 [(.int .i64 v)]]) (B := [oI bx1 29 (laCells l pb pc lb lc)]) (CallV.of_fn (first := []) (args := [.int .u8 (x : Int)]) (caps := [.pointer (some ⟨bx2, 0, none⟩)]) ent97 (tooGreat w v (by omega) (by omega) bx2 x (hL.p8 x hx))) (Sub.pick [0, 0] rfl)).mono (fun z O' ⟨A', e1, e2, e3⟩ => ⟨e2, by rw [e1, e3]; rfl⟩))).mono (fun z O' hh => (⟨hh.1.trans (congrArg Value.bool ((show ∀ b : Bool, b = decide (b = true) from fun b => by cases b <;> rfl) _)), hh.2⟩ : z = .bool (decide (l.pre.any (fun x => decide (¬ x < 2 ^ v.toNat)) = true)) ∧ O' = [oI bx2 3 [(.int .i64 v)], oI bx1 29 (laCells l pb pc lb lc)]))
    refine TO.loud rfl (l_call ent98 hk33 rfl ?_)
    clear hk33
    rintro vr O' ⟨rfl, rfl⟩
    rw [decide_eq_true hp]
    refine TO.quiet (q_move rfl) ?_
    refine TO.passed rfl rfl ?_
    refine TO.passed rfl rfl ?_
    refine TO.passed rfl rfl ?_
    refine TO.passed rfl rfl ?_
    refine TO.quiet (q_pick1 rfl rfl) ?_
    refine TO.nil ?_
    refine T.cond1 rfl ?_
    refine T.seq (T.region ?_)
    refine TO.quiet (q_assign rfl) ?_
    refine TO.nil (T.ret (Res.drop ?_))
    refine Res.one (.int .i64 1) Try.results51 rfl ?_
    refine ⟨[], Sub.of (List.nil_sublist _), congrArg (fun z : Nat => Value.int .i64 (z : Int)) (Eq.symm (a := checkLV v l) (b := 1) ?_), rfl⟩
    unfold checkLV checkL; rw [if_neg (by omega), if_neg (by omega), if_neg (by omega), if_neg]
    rintro ⟨q1, q2⟩
    exact absurd hp (by rw [any_not q1]; decide)
  have hk33 := (containsFuncB w pb pc l.pre [oI bx2 3 [(.int .i64 v)], oI bx1 29 (laCells l pb pc lb lc)] (Sl.o h.pre) (by have := hL.pre; have := hL.loop; omega) (.func (.func 97) #[] #[.pointer (some ⟨bx2, 0, none⟩)]) (fun x => decide (¬ x < 2 ^ v.toNat)) (fun x hx => (CallV.under (A := [oI bx2 3 [(.int .i64 v)]]) (B := [oI bx1 29 (laCells l pb pc lb lc)]) (CallV.of_fn (first := []) (args := [.int .u8 (x : Int)]) (caps := [.pointer (some ⟨bx2, 0, none⟩)]) ent97 (tooGreat w v (by omega) (by omega) bx2 x (hL.p8 x hx))) (Sub.pick [0, 0] rfl)).mono (fun z O' ⟨A', e1, e2, e3⟩ => ⟨e2, by rw [e1, e3]; rfl⟩))).mono (fun z O' hh => (⟨hh.1.trans (congrArg Value.bool ((show ∀ b : Bool, b = decide (b = true) from fun b => by cases b <;> rfl) _)), hh.2⟩ : z = .bool (decide (l.pre.any (fun x => decide (¬ x < 2 ^ v.toNat)) = true)) ∧ O' = [oI bx2 3 [(.int .i64 v)], oI bx1 29 (laCells l pb pc lb lc)]))
  refine TO.loud rfl (l_call ent98 hk33 rfl ?_)
  clear hk33
  rintro vr O' ⟨rfl, rfl⟩
  rw [decide_eq_false hp]
  refine TO.quiet (q_move rfl) ?_
  refine TO.guarded rfl rfl rfl (LT.of_quiet rfl rfl (q_fieldAddr Try.underlying29 rfl inf27 rfl rfl) ?_)
  refine TO.guarded rfl rfl rfl (LT.of_quiet rfl rfl (q_load_box 1 Try.underlying27 rfl rfl rfl rfl) ?_)
  refine TO.guarded rfl rfl rfl (LT.of_quiet rfl rfl (q_move rfl) ?_)
  by_cases hq : l.loop.any (fun x => decide (¬ x < 2 ^ v.toNat)) = true
  · have hk38 := (containsFuncB w lb lc l.loop [oI bx2 3 [(.int .i64 v)], oI bx1 29 (laCells l pb pc lb lc)] (Sl.o h.loop) (by have := hL.pre; have := hL.loop; omega) (.func (.func 97) #[] #[.pointer (some ⟨bx2, 0, none⟩)]) (fun x => decide (¬ x < 2 ^ v.toNat)) (fun x hx => (CallV.under (A := [oI bx2 3 [(.int .i64 v)]]) (B := [oI bx1 29 (laCells l pb pc lb lc)]) (CallV.of_fn (first := []) (args := [.int .u8 (x : Int)]) (caps := [.pointer (some ⟨bx2, 0, none⟩)]) ent97 (tooGreat w v (by omega) (by omega) bx2 x (hL.l8 x hx))) (Sub.pick [0, 0] rfl)).mono (fun z O' ⟨A', e1, e2, e3⟩ => ⟨e2, by rw [e1, e3]; rfl⟩))).mono (fun z O' hh => (⟨hh.1.trans (congrArg Value.bool ((show ∀ b : Bool, b = decide (b = true) from fun b => by cases b <;> rfl) _)), hh.2⟩ : z = .bool (decide (l.loop.any (fun x => decide (¬ x < 2 ^ v.toNat)) = true)) ∧ O' = [oI bx2 3 [(.int .i64 v)], oI bx1 29 (laCells l pb pc lb lc)]))
    refine TO.guarded rfl rfl rfl (l_call ent98 hk38 rfl ?_)
    clear hk38
    rintro vr O' ⟨rfl, rfl⟩
    rw [decide_eq_true hq]
    refine TO.quiet (q_pick0 rfl rfl) ?_
    refine TO.nil ?_
    refine T.cond1 rfl ?_
    refine T.seq (T.region ?_)
    refine TO.quiet (q_assign rfl) ?_
    refine TO.nil (T.ret (Res.drop ?_))
    refine Res.one (.int .i64 1) Try.results51 rfl ?_
    refine ⟨[], Sub.of (List.nil_sublist _), congrArg (fun z : Nat => Value.int .i64 (z : Int)) (Eq.symm (a := checkLV v l) (b := 1) ?_), rfl⟩
    unfold checkLV checkL; rw [if_neg (by omega), if_neg (by omega), if_neg (by omega), if_neg]
    rintro ⟨q1, q2⟩
    exact absurd hq (by rw [any_not q2]; decide)
  have hk38 := (containsFuncB w lb lc l.loop [oI bx2 3 [(.int .i64 v)], oI bx1 29 (laCells l pb pc lb lc)] (Sl.o h.loop) (by have := hL.pre; have := hL.loop; omega) (.func (.func 97) #[] #[.pointer (some ⟨bx2, 0, none⟩)]) (fun x => decide (¬ x < 2 ^ v.toNat)) (fun x hx => (CallV.under (A := [oI bx2 3 [(.int .i64 v)]]) (B := [oI bx1 29 (laCells l pb pc lb lc)]) (CallV.of_fn (first := []) (args := [.int .u8 (x : Int)]) (caps := [.pointer (some ⟨bx2, 0, none⟩)]) ent97 (tooGreat w v (by omega) (by omega) bx2 x (hL.l8 x hx))) (Sub.pick [0, 0] rfl)).mono (fun z O' ⟨A', e1, e2, e3⟩ => ⟨e2, by rw [e1, e3]; rfl⟩))).mono (fun z O' hh => (⟨hh.1.trans (congrArg Value.bool ((show ∀ b : Bool, b = decide (b = true) from fun b => by cases b <;> rfl) _)), hh.2⟩ : z = .bool (decide (l.loop.any (fun x => decide (¬ x < 2 ^ v.toNat)) = true)) ∧ O' = [oI bx2 3 [(.int .i64 v)], oI bx1 29 (laCells l pb pc lb lc)]))
  refine TO.guarded rfl rfl rfl (l_call ent98 hk38 rfl ?_)
  clear hk38
  rintro vr O' ⟨rfl, rfl⟩
  rw [decide_eq_false hq]
  refine TO.quiet (q_pick0 rfl rfl) ?_
  refine TO.nil ?_
  refine T.cond0 rfl ?_
  refine T.skip (T.seq (T.region ?_))
  refine TO.quiet (q_assign rfl) ?_
  refine TO.nil (T.ret (Res.drop ?_))
  refine Res.one (.int .i64 0) Try.results51 rfl ?_
  refine ⟨[], Sub.of (List.nil_sublist _), congrArg (fun z : Nat => Value.int .i64 (z : Int)) (Eq.symm (a := checkLV v l) (b := 0) ?_), rfl⟩
  unfold checkLV checkL; rw [if_neg (by omega), if_neg (by omega), if_neg (by omega), if_pos ⟨all_not (Bool.eq_false_iff.2 hp), all_not (Bool.eq_false_iff.2 hq)⟩]
end Go.Proofs.Ytnamoapbienooaa


namespace Go.Proofs.Ytnamoapbienooaa
open Go.Lx Go.RowKit
set_option linter.unusedVariables false
set_option linter.unusedSimpArgs false
set_option maxHeartbeats 1000000 in
set_option maxRecDepth 20000 in
theorem cloneINil (w : World) (c : Nat) :
    PureT Try.prog 70 [.slice none 0 c] w fun v N => ∃ b' c', v = .slice b' 0 c' ∧ N = [rowI b' c' 3 1 []] := by
  refine CallT.enter Try.func70 rfl Try.ntmps70 rfl ?_
  refine T.seq (T.region ?_)
  refine TO.quiet (q_assign rfl) ?_
  refine TO.nil (T.seq (T.seq (T.region ?_)))
  refine TO.quiet (q_move rfl) (TO.quiet (q_eqlNil Try.underlying22 rfl rfl) ?_)
  refine TO.nil ?_
  refine T.cond1 rfl ?_
  refine T.seq ?_
  refine T.nilRow 3 1 ?_
  refine T.region ?_
  refine TO.quiet (q_assign rfl) ?_
  refine TO.nil (T.ret ?_)
  refine Res.one (.slice none 0 0) Try.results70 rfl ?_
  exact ⟨_, _, rfl, rfl⟩
set_option maxHeartbeats 1000000 in
set_option maxRecDepth 20000 in
theorem cloneISome (w : World) (a : Addr) (c : Nat) (xs : List Int) (h1 : Sl w (some a) (ints xs)) (hb : xs.length ≤ 1000000000) :
    PureT Try.prog 70 [.slice (some a) xs.length c] w fun v N => ∃ b' c', v = .slice b' xs.length c' ∧ N = [rowI b' c' 3 1 (ints xs)] := by
  refine CallT.enter Try.func70 rfl Try.ntmps70 rfl ?_
  refine T.seq (T.region ?_)
  refine TO.quiet (q_assign rfl) ?_
  refine TO.nil (T.seq (T.seq (T.region ?_)))
  refine TO.quiet (q_move rfl) (TO.quiet (q_eqlNil Try.underlying22 rfl rfl) ?_)
  refine TO.nil ?_
  refine T.cond0 rfl ?_
  refine T.skip (T.seq (T.region ?_))
  refine TO.loud rfl (l_buildSlice (m := 0) (parts := []) (cs := []) Try.underlying22 inf3 (by decide) (by simp [Instr.fill]) rfl (fun b1 => ?_))
  refine TO.quiet (q_move rfl) ?_
  refine TO.loud rfl (l_append 0 Try.underlying22 Try.underlying22 inf3 rfl rfl rfl rfl (by simp) (by decide) (Src.sl h1 (by simp)) (ints_one xs) (by omega) (by decide) (by decide) (fun bx1 c2 => ?_))
  refine TO.quiet (q_assign rfl) ?_
  refine TO.nil (T.ret ?_)
  refine Res.one (.slice bx1 (0 + xs.length) c2) Try.results70 rfl ?_
  exact ⟨_, _, by rw [Nat.zero_add], rfl⟩
theorem cloneI (w : World) (b : Option Addr) (c : Nat) (xs : List Int) (h1 : Sl w b (ints xs)) (hb : xs.length ≤ 1000000000) :
    PureT Try.prog 70 [.slice b xs.length c] w fun v N => ∃ b' c', v = .slice b' xs.length c' ∧ N = [rowI b' c' 3 1 (ints xs)] := by
  cases b with
  | none =>
    have hx : xs = [] := by
      cases xs with
      | nil => rfl
      | cons x xs => obtain ⟨_, _, e⟩ := h1.addr (i := 0) (by simp); cases e
    subst hx
    exact cloneINil w c
  | some a => exact cloneISome w a c xs h1 hb
set_option maxHeartbeats 1000000 in
set_option maxRecDepth 20000 in
theorem cloneBNil (w : World) (c : Nat) :
    PureT Try.prog 81 [.slice none 0 c] w fun v N => ∃ b' c', v = .slice b' 0 c' ∧ N = [rowI b' c' 5 1 []] := by
  refine CallT.enter Try.func81 rfl Try.ntmps81 rfl ?_
  refine T.seq (T.region ?_)
  refine TO.quiet (q_assign rfl) ?_
  refine TO.nil (T.seq (T.seq (T.region ?_)))
  refine TO.quiet (q_move rfl) (TO.quiet (q_eqlNil Try.underlying27 rfl rfl) ?_)
  refine TO.nil ?_
  refine T.cond1 rfl ?_
  refine T.seq ?_
  refine T.nilRow 5 1 ?_
  refine T.region ?_
  refine TO.quiet (q_assign rfl) ?_
  refine TO.nil (T.ret ?_)
  refine Res.one (.slice none 0 0) Try.results81 rfl ?_
  exact ⟨_, _, rfl, rfl⟩
set_option maxHeartbeats 1000000 in
set_option maxRecDepth 20000 in
theorem cloneBSome (w : World) (a : Addr) (c : Nat) (xs : List Nat) (h1 : Sl w (some a) (byts xs)) (hb : xs.length ≤ 1000000000) :
    PureT Try.prog 81 [.slice (some a) xs.length c] w fun v N => ∃ b' c', v = .slice b' xs.length c' ∧ N = [rowI b' c' 5 1 (byts xs)] := by
  refine CallT.enter Try.func81 rfl Try.ntmps81 rfl ?_
  refine T.seq (T.region ?_)
  refine TO.quiet (q_assign rfl) ?_
  refine TO.nil (T.seq (T.seq (T.region ?_)))
  refine TO.quiet (q_move rfl) (TO.quiet (q_eqlNil Try.underlying27 rfl rfl) ?_)
  refine TO.nil ?_
  refine T.cond0 rfl ?_
  refine T.skip (T.seq (T.region ?_))
  refine TO.loud rfl (l_buildSlice (m := 0) (parts := []) (cs := []) Try.underlying27 inf5 (by decide) (by simp [Instr.fill]) rfl (fun b1 => ?_))
  refine TO.quiet (q_move rfl) ?_
  refine TO.loud rfl (l_append 0 Try.underlying27 Try.underlying27 inf5 rfl rfl rfl rfl (by simp) (by decide) (Src.sl h1 (by simp)) (byts_one xs) (by omega) (by decide) (by decide) (fun bx1 c2 => ?_))
  refine TO.quiet (q_assign rfl) ?_
  refine TO.nil (T.ret ?_)
  refine Res.one (.slice bx1 (0 + xs.length) c2) Try.results81 rfl ?_
  exact ⟨_, _, by rw [Nat.zero_add], rfl⟩
theorem cloneB (w : World) (b : Option Addr) (c : Nat) (xs : List Nat) (h1 : Sl w b (byts xs)) (hb : xs.length ≤ 1000000000) :
    PureT Try.prog 81 [.slice b xs.length c] w fun v N => ∃ b' c', v = .slice b' xs.length c' ∧ N = [rowI b' c' 5 1 (byts xs)] := by
  cases b with
  | none =>
    have hx : xs = [] := by
      cases xs with
      | nil => rfl
      | cons x xs => obtain ⟨_, _, e⟩ := h1.addr (i := 0) (by simp); cases e
    subst hx
    exact cloneBNil w c
  | some a => exact cloneBSome w a c xs h1 hb
set_option maxHeartbeats 1000000 in
set_option maxRecDepth 20000 in
theorem growB (w : World) (n : Nat) (hn : n ≤ 1000000000) :
    PureT Try.prog 108 [.slice none 0 0, .int .i64 (n : Int)] w fun v N => ∃ b c, v = .slice b 0 c ∧ N = [rowI b c 5 1 []] := by
  refine CallT.enter Try.func108 rfl Try.ntmps108 rfl ?_
  refine T.seq (T.region ?_)
  refine TO.quiet (q_assign rfl) ?_
  refine TO.nil (T.seq (T.seq (T.region ?_)))
  refine TO.quiet (q_move rfl) (TO.quiet (q_lss rfl rfl) ?_)
  refine TO.nil ?_
  refine T.cond0 (congrArg Value.bool (decide_eq_false (by omega))) ?_
  refine T.skip (T.seq (T.seq (T.region ?_)))
  refine TO.quiet (q_move rfl) (TO.quiet (q_move rfl) (TO.quiet (q_cap Try.underlying27 rfl) (TO.quiet (q_move rfl) ?_)))
  refine TO.quiet (q_len Try.underlying27 rfl) (TO.quiet (q_subN (a := 0) (b := 0) rfl rfl (by omega) (by omega)) (TO.quiet (QT.cast (q_subN (a := n) (b := 0) rfl rfl (by omega) (by omega)) (v' := .int .i64 ((n : Nat) : Int)) (by rw [Nat.sub_zero])) (TO.quiet (q_assign rfl) ?_)))
  refine TO.nil (T.seq (T.region ?_))
  refine TO.quiet (q_move rfl) (TO.quiet (q_gtr rfl rfl) ?_)
  refine TO.nil ?_
  refine T.condP rfl (fun hc => ?_) (fun hc => ?_)
  · have hlt16 : n > 0 := by omega
    refine T.region ?_
    refine TO.quiet (q_move rfl) (TO.quiet (q_move rfl) (TO.quiet (q_cap Try.underlying27 rfl) (TO.quiet (q_sliceTo (hi := 0) Try.underlying27 inf5 rfl rfl (Nat.le_refl _)) ?_)))
    refine TO.quiet (q_move rfl) ?_
    refine TO.loud rfl (l_appendZ (m := n) Try.underlying27 Try.underlying3 inf5 rfl rfl rfl (by omega) (by omega) (by decide) (by decide) (fun gb gc hgc => ?_))
    refine TO.quiet (q_move rfl) (TO.quiet (q_len Try.underlying27 rfl) ?_)
    refine TO.loud rfl (l_head (m := 0) 0 Try.underlying27 inf5 rfl rfl rfl (by omega) ?_)
    refine TO.sub (O' := [rowI gb gc 5 1 []]) (by rw [show (List.replicate n (Value.int .u8 0)).take (0 * 1) = [] from (by simp)]; exact Sub.of (List.Sublist.refl _)) ?_
    refine TO.quiet (q_assign rfl) ?_
    refine TO.nil (T.seq ?_)
    
    refine T.region ?_
    refine TO.quiet (q_move rfl) (TO.quiet (q_assign rfl) ?_)
    refine TO.nil (T.ret (Res.drop ?_))
    refine Res.one (.slice gb 0 gc) Try.results108 rfl ?_
    exact ⟨_, Sub.of (List.Sublist.refl _), _, _, rfl, rfl⟩
  have hge16 : ¬ n > 0 := by omega
  refine T.skip (T.seq ?_)
  refine T.nilRow 5 1 ?_
  refine T.region ?_
  refine TO.quiet (q_move rfl) (TO.quiet (q_assign rfl) ?_)
  refine TO.nil (T.ret (Res.drop ?_))
  refine Res.one (.slice none 0 0) Try.results108 rfl ?_
  exact ⟨_, Sub.of (List.Sublist.refl _), _, _, rfl, rfl⟩
set_option maxHeartbeats 1000000 in
set_option maxRecDepth 20000 in
theorem concatB (w : World) (b : Option Addr) (c : Nat) (vs : List Value) (ws : List (List Nat)) (hS : Sl w b vs) (hW : WordsR w vs ws) (hl : ws.length ≤ 1000000) (hb : ws.flatten.length ≤ 1000000000) :
    PureT Try.prog 82 [.slice b ws.length c] w fun v N => ∃ b' c', v = .slice b' ws.flatten.length c' ∧ N = [rowI b' c' 5 1 (byts ws.flatten)] := by
  refine CallT.enter Try.func82 rfl Try.ntmps82 rfl ?_
  refine T.seq (T.region ?_)
  refine TO.quiet (q_assign rfl) ?_
  refine TO.nil (T.seq (T.region ?_))
  refine TO.quiet (q_assign rfl) ?_
  refine TO.nil (T.seq (T.seq (T.region ?_)))
  refine TO.quiet (q_move rfl) (TO.quiet (q_len Try.underlying131 rfl) (TO.quiet (q_move rfl) ?_))
  refine TO.nil (T.block ?_)
  refine T.loop (fun (k : Nat) ρ O => O = [] ∧ k ≤ ws.length ∧ Heads [(0, (.slice b ws.length c)), (2, (.slice none 0 0)), (3, .int .i64 (((ws.take k).flatten.length : Nat) : Int)), (9, (.slice b ws.length c)), (10, .int .i64 (ws.length : Int)), (11, .int .i64 (k : Int))] ρ) (fun k => ws.length - k) 0 ?_ ?_
  · exact ⟨rfl, Nat.zero_le _, ⟨rfl, rfl, rfl, rfl, rfl, rfl, trivial⟩⟩
  rintro k ρ O ⟨rfl, hk, hH⟩
  obtain ⟨ρ0, rfl⟩ := hH.elim
  clear hH
  refine T.seq (T.region ?_)
  refine TO.quiet (q_lss rfl rfl) ?_
  refine TO.nil (T.seq ?_)
  refine T.condP rfl (fun hc => ?_) (fun hc => ?_)
  · have hlt12 : k < ws.length := by omega
    obtain ⟨rb, rc, g1, s1⟩ := hW.get hlt12
    have hfl := flat_le (ws := ws) (k + 1)
    rw [flat_take hlt12, List.length_append] at hfl
    refine T.skip (T.seq (T.block (T.seq (T.region ?_))))
    refine TO.quiet (q_ix (i := k) Try.underlying131 inf27 rfl rfl (Sl.o hS) (by first | assumption | omega | (simp; omega) | simp_all) (by rw [hW.1]; exact hlt12)) (TO.quiet (q_ld Try.underlying27 rfl rfl (Sl.o hS) g1) (TO.quiet (q_assign rfl) ?_))
    refine TO.nil (T.seq (T.region ?_))
    refine TO.quiet (q_move rfl) (TO.quiet (q_move rfl) (TO.quiet (q_len Try.underlying27 rfl) (TO.quiet (q_addN (a := ((ws.take k).flatten.length)) (b := ws[k].length) rfl rfl (by omega)) ?_)))
    refine TO.quiet (q_assign rfl) ?_
    refine TO.nil (T.seq (T.region ?_))
    refine TO.quiet (q_move rfl) (TO.quiet (q_lss rfl rfl) ?_)
    refine TO.nil ?_
    refine T.cond0 (congrArg Value.bool (decide_eq_false (by omega))) ?_
    refine T.skip (T.region ?_)
    refine TO.quiet (q_addN (a := k) (b := 1) rfl rfl (by omega)) (TO.quiet (q_move rfl) ?_)
    refine TO.nil ?_
    refine ⟨k + 1, by omega, rfl, by omega, ?_⟩
    rw [flat_take hlt12, List.length_append]; exact ⟨rfl, rfl, rfl, rfl, rfl, rfl, trivial⟩
  have hge12 : ¬ k < ws.length := by omega
  refine T.exit ?_
  refine T.seq (T.region ?_)
  refine TO.quiet (q_move rfl) ?_
  have hk24 := fun (w1 : World) (hI : Inv w [] w1) => growB w1 (ws.take k).flatten.length (by have := flat_le (ws := ws) k; omega)
  refine TO.loud rfl (l_call ent108 (CallT.of_pure hk24) rfl ?_)
  clear hk24
  rintro vr O' ⟨N, rfl, gb, gc, rfl, rfl⟩
  refine TO.quiet (q_assign rfl) ?_
  refine TO.nil (T.seq (T.seq (T.region ?_)))
  refine TO.quiet (q_move rfl) (TO.quiet (q_len Try.underlying131 rfl) (TO.quiet (q_move rfl) ?_))
  refine TO.nil (T.block ?_)
  refine T.loop (fun (j : Nat) ρ O => ∃ (gb2 : Option Addr) (gc2 : Nat), O = [rowI gb2 gc2 5 1 (byts (ws.take j).flatten)] ∧ j ≤ ws.length ∧ Heads [(0, (.slice b ws.length c)), (2, (.slice none 0 0)), (3, .int .i64 (((ws.take k).flatten.length : Nat) : Int)), (6, (.slice gb2 ((ws.take j).flatten.length) gc2)), (25, (.slice b ws.length c)), (26, .int .i64 (ws.length : Int)), (27, .int .i64 (j : Int))] ρ) (fun j => ws.length - j) 0 ?_ ?_
  · exact ⟨gb, gc, rfl, Nat.zero_le _, ⟨rfl, rfl, rfl, rfl, rfl, rfl, rfl, trivial⟩⟩
  rintro j ρ O ⟨gb2, gc2, rfl, hj, hH⟩
  obtain ⟨ρ0, rfl⟩ := hH.elim
  clear hH
  refine T.seq (T.region ?_)
  refine TO.quiet (q_lss rfl rfl) ?_
  refine TO.nil (T.seq ?_)
  refine T.condP rfl (fun hc => ?_) (fun hc => ?_)
  · have hlt28 : j < ws.length := by omega
    obtain ⟨rb, rc, g1, s1⟩ := hW.get hlt28
    have hfl := flat_le (ws := ws) (j + 1)
    rw [flat_take hlt28, List.length_append] at hfl
    refine T.skip (T.seq (T.block (T.seq (T.region ?_))))
    refine TO.quiet (q_ix (i := j) Try.underlying131 inf27 rfl rfl (Sl.o hS) (by first | assumption | omega | (simp; omega) | simp_all) (by rw [hW.1]; exact hlt28)) (TO.quiet (q_ld Try.underlying27 rfl rfl (Sl.o hS) g1) (TO.quiet (q_assign rfl) ?_))
    refine TO.nil (T.region ?_)
    refine TO.quiet (q_move rfl) (TO.quiet (q_move rfl) ?_)
    refine TO.loud rfl (l_append 0 Try.underlying27 Try.underlying27 inf5 rfl rfl rfl rfl (by rw [List.length_map, Nat.mul_one]) (by decide) (Src.sl s1 (by simp)) (byts_one ws[j]) (by omega) (by decide) (by decide) (fun bx1 c2 => ?_))
    refine TO.quiet (q_assign rfl) ?_
    refine TO.nil (T.region ?_)
    refine TO.quiet (q_addN (a := j) (b := 1) rfl rfl (by omega)) (TO.quiet (q_move rfl) ?_)
    refine TO.nil ?_
    have e := flat_take hlt28
    refine ⟨j + 1, by omega, bx1, c2, ?_, by omega, ?_⟩
    · rw [e, show byts ((ws.take j).flatten ++ ws[j]) = byts (ws.take j).flatten ++ byts ws[j] from List.map_append]; rfl
    · rw [e, List.length_append]; exact ⟨rfl, rfl, rfl, rfl, rfl, rfl, rfl, trivial⟩
  have hge28 : ¬ j < ws.length := by omega
  refine T.exit ?_
  refine T.seq (T.region ?_)
  refine TO.quiet (q_move rfl) (TO.quiet (q_assign rfl) ?_)
  refine TO.nil (T.ret (Res.drop ?_))
  refine Res.one (.slice gb2 ((ws.take j).flatten.length) gc2) Try.results82 rfl ?_
  have hke : j = ws.length := by omega
  subst hke
  rw [List.take_length]
  exact ⟨_, Sub.of (List.Sublist.refl _), _, _, rfl, rfl⟩
set_option maxHeartbeats 1000000 in
set_option maxRecDepth 20000 in
theorem reverseB (base : World) (b : Option Addr) (c c' : Nat) (xs : List Nat) (hb : xs.length ≤ 1000000000) :
    CallT Try.prog base 106 [.slice b xs.length c'] [rowI b c 5 1 (byts xs)] (fun _ O' => O' = [rowI b c 5 1 (byts xs.reverse)]) := by
  refine CallT.enter Try.func106 rfl Try.ntmps106 rfl ?_
  refine T.seq (T.region ?_)
  refine TO.quiet (q_move rfl) (TO.quiet (q_len Try.underlying27 rfl) (TO.quiet (q_sub64 rfl rfl (by omega)) (TO.quiet (q_assign rfl) ?_)))
  refine TO.quiet (q_assign rfl) ?_
  refine TO.nil (T.block ?_)
  refine T.loop (fun (i : Nat) ρ O => ∃ (ys : List Nat), O = [rowI b c 5 1 (byts ys)] ∧ i ≤ xs.length ∧ ys.length = xs.length ∧ (∀ q, q < xs.length → ys[q]? = if q < i ∨ xs.length ≤ q + i then xs[xs.length - 1 - q]? else xs[q]?) ∧ Heads [(0, (.slice b xs.length c')), (2, .int .i64 (i : Int)), (3, .int .i64 ((xs.length : Int) - 1 - (i : Int)))] ρ) (fun i => xs.length - i) 0 ?_ ?_
  · exact ⟨xs, rfl, Nat.zero_le _, rfl, (fun q hq => by rw [if_neg (by omega)]), ⟨rfl, rfl, (by show Value.int .i64 ((xs.length : Int) - 1) = Value.int .i64 ((xs.length : Int) - 1 - ((0 : Nat) : Int)); congr 1; omega), trivial⟩⟩
  rintro i ρ O ⟨ys, rfl, hi, hyl, hys, hH⟩
  obtain ⟨ρ0, rfl⟩ := hH.elim
  clear hH
  refine T.seq (T.seq (T.region ?_))
  refine TO.quiet (q_move rfl) (TO.quiet (q_move rfl) (TO.quiet (q_lss rfl rfl) ?_))
  refine TO.nil ?_
  refine T.condP rfl (fun hc => ?_) (fun hc => ?_)
  · obtain ⟨j, hj⟩ : ∃ j : Nat, (xs.length : Int) - 1 - i = (j : Int) := ⟨xs.length - 1 - i, by omega⟩
    have hij : i < j := by omega
    have hjl : j < xs.length := by omega
    refine T.skip (T.seq (T.block ?_))
    refine T.draws2 [] [rowI b c 5 1 (byts ys)] [(0, 0), (1, 0), (2, 0), (3, 0), (4, 0), (5, 0), (6, 3), (7, 3), (8, 0), (9, 0), (10, 3), (11, 3), (12, 3), (13, 4), (14, 2), (15, 2)] mixed (by kernel_rfl) (Sub.of (List.nil_sublist _)) (Sub.pick [0] rfl) (fun _ _ _ h => h) ?_
    refine DO.quiet rfl (q_move rfl) (DO.quiet rfl (q_move rfl) (DO.quiet rfl (q_move rfl) (DO.quiet rfl (QT.cast (q_move rfl) (v' := .int .i64 ((j : Nat) : Int)) (by show Value.int _ _ = _; rw [← hj])) ?_)))
    refine DO.quiet rfl (q_move rfl) (DO.quiet rfl (QT.cast (q_move rfl) (v' := .int .i64 ((j : Nat) : Int)) (by show Value.int _ _ = _; rw [← hj])) ?_)
    refine DO.quiet2 rfl (q_ix (i := j) Try.underlying27 inf5 rfl rfl (rowO (List.mem_of_getElem? (i := 0) rfl))) ?_
    refine DO.quiet2 rfl (q_ld Try.underlying5 rfl rfl (rowO (List.mem_of_getElem? (i := 0) rfl)) byts_get) ?_
    refine DO.quiet rfl (q_move rfl) (DO.quiet rfl (q_move rfl) ?_)
    refine DO.quiet2 rfl (q_ix (i := i) Try.underlying27 inf5 rfl rfl (rowO (List.mem_of_getElem? (i := 0) rfl))) ?_
    refine DO.quiet2 rfl (q_ld Try.underlying5 rfl rfl (rowO (List.mem_of_getElem? (i := 0) rfl)) byts_get) ?_
    refine DO.quiet2 rfl (q_ix (i := i) Try.underlying27 inf5 rfl rfl (rowO (List.mem_of_getElem? (i := 0) rfl))) ?_
    refine DO.last2 rfl rfl (l_st (j := i) (v := .int .u8 ((ys[j] : Nat) : Int)) (vs := [(.int .u8 ((ys[j] : Nat) : Int))]) (cs := byts ys) 0 inf5 rfl rfl rfl rfl rfl (by simp) rfl (by first | (simp; omega) | (simp_all; omega)) ⟨Sub.pick [] rfl, ?_⟩)
    refine DO.sub (O' := [rowI b c 5 1 (byts (ys.set i ys[j]))]) (by rw [show putL (byts ys) i [(.int .u8 ((ys[j] : Nat) : Int))] = byts (ys.set i ys[j]) from (by simp [putL])]; exact Sub.of (List.Sublist.refl _)) ?_
    refine DO.last rfl rfl (LT.of_quiet rfl rfl (q_ix (i := j) Try.underlying27 inf5 rfl rfl (rowO (List.mem_of_getElem? (i := 0) rfl))) ?_)
    refine DO.last rfl rfl (l_st (j := j) (v := .int .u8 ((ys[i] : Nat) : Int)) (vs := [(.int .u8 ((ys[i] : Nat) : Int))]) (cs := byts (ys.set i ys[j])) 0 inf5 rfl rfl rfl rfl rfl (by simp) rfl (by first | (simp; omega) | (simp_all; omega)) ?_)
    refine DO.sub (O' := [rowI b c 5 1 (byts ((ys.set i ys[j]).set j ys[i]))]) (by rw [show putL (byts (ys.set i ys[j])) j [(.int .u8 ((ys[i] : Nat) : Int))] = byts ((ys.set i ys[j]).set j ys[i]) from (by simp [putL])]; exact Sub.of (List.Sublist.refl _)) ?_
    refine DO.done ?_
    refine T.region ?_
    refine TO.quiet (q_move rfl) (TO.quiet (q_addN (a := i) (b := 1) rfl rfl (by omega)) (TO.quiet (q_move rfl) (TO.quiet (q_sub64 rfl rfl (by omega)) ?_)))
    refine TO.quiet (q_assign rfl) (TO.quiet (q_assign rfl) ?_)
    refine TO.nil ?_
    refine ⟨i + 1, by omega, (ys.set i ys[j]).set j ys[i], rfl, by omega, by simp [hyl], fun q hq => ?_, ⟨rfl, rfl, ?_, trivial⟩⟩
    · have h1 := hys i (by omega)
      have h2 := hys j hjl
      rw [List.getElem?_eq_getElem (by omega), if_neg (by omega)] at h1 h2
      rw [List.getElem?_set, List.getElem?_set]
      by_cases e1 : j = q
      · subst e1
        rw [if_pos rfl, if_pos (by simp; omega), if_pos (by omega), h1]; congr 1; omega
      · rw [if_neg e1]
        by_cases e2 : i = q
        · subst e2
          rw [if_pos rfl, if_pos (by omega), if_pos (by omega), h2]; congr 1; omega
        · rw [if_neg e2, hys q hq]
          by_cases e3 : q < i ∨ xs.length ≤ q + i
          · rw [if_pos e3, if_pos (by omega)]
          · rw [if_neg e3, if_neg (by omega)]
    · show Value.int _ _ = Value.int _ _; congr 1; omega
  refine T.exit ?_
  refine Res.zero Try.results106 ?_
  have hyr : ys = xs.reverse := by
    apply List.ext_getElem?
    intro q
    by_cases hq : q < xs.length
    · rw [hys q hq, List.getElem?_reverse hq]
      split
      · rfl
      · congr 1; omega
    · rw [List.getElem?_eq_none (by omega), List.getElem?_eq_none (by simp; omega)]
  rw [hyr]
end Go.Proofs.Ytnamoapbienooaa


namespace Go.Lx
open Go.RowKit
set_option linter.unusedVariables false
structure TL where
  idx : List Nat
  low : List Nat
  comp : List Int
  stk : List Nat
  clk : Nat
  cnt : Nat
def TL.ts (s : TL) : TS := ⟨fn s.idx, fn s.low, fz s.comp, s.stk, s.clk, s.cnt⟩
def adjE (nx : List (List Int)) (u v : Nat) : Prop := ∃ r, nx[u]? = some r ∧ (v : Int) ∈ r
def adjN (nx : List (List Int)) (v : Nat) : List Nat := (nx.getD v []).map Int.toNat
structure TLok (n : Nat) (s : TL) : Prop where
  li : s.idx.length = n
  ll : s.low.length = n
  lc : s.comp.length = n
  ck : s.clk + s.idx.count 0 = n
  sk : s.stk.length ≤ s.clk
  ct : s.cnt + s.idx.count 0 ≤ n
structure VDone (n : Nat) (nx : List (List Int)) (gray : List Nat) (s : TL) (v : Nat) (s' : TL) (t : List Nat) : Prop where
  ok : TLok n s'
  inv : TInv n (adjE nx) gray s'.ts
  ext : TExt s.ts s'.ts t
  post : VPost (adjE nx) s.ts s'.ts t v
  ct : s'.cnt + s'.idx.count 0 ≤ s.cnt + s.idx.count 0
  lt : s'.idx.count 0 < s.idx.count 0
structure VRun (n : Nat) (nx : List (List Int)) (gray : List Nat) (s0 : TL) (v k : Nat) (s : TL) (t : List Nat) : Prop where
  ok : TLok n s
  lp : VLoop n (adjE nx) gray s0.ts v (adjN nx v) k s.ts t
  ct : s.cnt + s.idx.count 0 + 1 ≤ s0.cnt + s0.idx.count 0
  lt : s.idx.count 0 < s0.idx.count 0
theorem count_set0 {l : List Nat} {v a : Nat} (h : v < l.length) (h0 : l[v] = 0) (ha : a ≠ 0) : (l.set v a).count 0 + 1 = l.count 0 := by
  rw [List.count_set h, h0]
  have : 0 < l.count 0 := List.count_pos_iff.2 (by rw [← h0]; exact List.getElem_mem h)
  have ha' : (a == 0) = false := by simpa using ha
  simp [ha']; omega
section
variable {n : Nat} {nx : List (List Int)} {gray : List Nat} {s0 s : TL} {v k : Nat} {t : List Nat}
theorem fn_at {l : List Nat} {v : Nat} (h : v < l.length) : fn l v = l[v] := fn_get h
theorem VRun.enter (hok : TLok n s) (h : TInv n (adjE nx) gray s.ts) (hn : v < n) (hv : s.idx[v]'(by rw [hok.li]; exact hn) = 0) (hg : ∀ g ∈ gray, Rch (adjE nx) g v) :
    VRun n nx gray s v 0 { s with idx := s.idx.set v (s.clk + 1), low := s.low.set v (s.clk + 1), stk := s.stk ++ [v], clk := s.clk + 1 } [] := by
  have hvi : v < s.idx.length := by rw [hok.li]; exact hn
  have hc := count_set0 hvi hv (a := s.clk + 1) (by omega)
  have h0 : s.ts.idx v = 0 := (fn_at hvi).trans hv
  have hck := hok.ck
  have hct := hok.ct
  have hsk := hok.sk
  refine ⟨⟨by simp [hok.li], by simp [hok.ll], hok.lc, ?_, ?_, ?_⟩, ?_, ?_, ?_⟩
  · show s.clk + 1 + (s.idx.set v (s.clk + 1)).count 0 = n; omega
  · show (s.stk ++ [v]).length ≤ s.clk + 1; rw [List.length_append]; simpa using hsk
  · show s.cnt + (s.idx.set v (s.clk + 1)).count 0 ≤ n; omega
  · exact VLoop.enter h h0 hn hg (fun x => fn_set hvi x) (fun x => fn_set (by rw [hok.ll]; exact hn) x) (by
      by_cases hcn : s.ts.comp v < 0
      · exact hcn
      · exact absurd h0 (h.cmp v (by omega)).1) (fun _ => rfl)
  · show s.cnt + (s.idx.set v (s.clk + 1)).count 0 + 1 ≤ _; omega
  · show (s.idx.set v (s.clk + 1)).count 0 < _; omega
theorem adjN_get (hk : k < (nx.getD v []).length) {u : Nat} (hu : (nx.getD v [])[k] = (u : Int)) : ∃ h : k < (adjN nx v).length, (adjN nx v)[k] = u :=
  ⟨by simpa [adjN] using hk, by simp only [adjN, List.getElem_map, hu]; rfl⟩
theorem adjE_of (hv : v < nx.length) {u : Nat} (h : (u : Int) ∈ nx[v]) : adjE nx v u := ⟨_, List.getElem?_eq_getElem hv, h⟩
theorem adjN_of {u : Nat} (h : adjE nx v u) : u ∈ adjN nx v := by
  obtain ⟨r, h1, h2⟩ := h
  unfold adjN
  rw [List.getD_eq_getElem?_getD, h1]
  exact List.mem_map.2 ⟨_, h2, by simp⟩
theorem getD_at {nx : List (List Int)} {v : Nat} (hv : v < nx.length) : nx.getD v [] = nx[v] := by simp [hv]
theorem VRun.skip (h : VRun n nx gray s0 v k s t) (h0 : TInv n (adjE nx) gray s0.ts) (hv : v < nx.length) (hk : k < nx[v].length) {u : Nat} (hu : nx[v][k] = (u : Int)) (hi : s.idx.getD u 0 ≠ 0) (hc : ¬ s.comp.getD u (-1) < 0) : VRun n nx gray s0 v (k + 1) s t := by
  have hd := getD_at hv
  obtain ⟨h1, h2⟩ := adjN_get (v := v) (k := k) (nx := nx) (u := u) (by rw [hd]; exact hk) (by simp only [hd]; exact hu)
  exact ⟨h.ok, h.lp.stepSkip h1 h2 hi (show (0 : Int) ≤ s.comp.getD u (-1) by omega) h0, h.ct, h.lt⟩
theorem VRun.back (h : VRun n nx gray s0 v k s t) (h0 : TInv n (adjE nx) gray s0.ts) (hvn : v < n) (hv : v < nx.length) (hk : k < nx[v].length) {u : Nat} (hu : nx[v][k] = (u : Int)) (hi : s.idx.getD u 0 ≠ 0) (hc : s.comp.getD u (-1) < 0) {a : Nat} (ha : a = min (s.low.getD v 0) (s.idx.getD u 0)) :
    VRun n nx gray s0 v (k + 1) { s with low := s.low.set v a } t := by
  have hd := getD_at hv
  obtain ⟨h1, h2⟩ := adjN_get (v := v) (k := k) (nx := nx) (u := u) (by rw [hd]; exact hk) (by simp only [hd]; exact hu)
  refine ⟨⟨h.ok.li, by simp [h.ok.ll], h.ok.lc, h.ok.ck, h.ok.sk, h.ok.ct⟩, ?_, h.ct, h.lt⟩
  exact h.lp.stepBack h1 h2 (adjE_of hv (by rw [← hu]; exact List.getElem_mem hk)) hi hc h0 (fun x => by subst ha; exact fn_set (by rw [h.ok.ll]; exact hvn) x)
theorem VRun.tree (h : VRun n nx gray s0 v k s t) (h0 : TInv n (adjE nx) gray s0.ts) (hvn : v < n) (hv : v < nx.length) (hk : k < nx[v].length) {u : Nat} (hu : nx[v][k] = (u : Int)) (hi : s.idx.getD u 0 = 0) {s' : TL} {t2 : List Nat} (hd' : VDone n nx (gray ++ [v]) s u s' t2) {a : Nat} (ha : a = min (s'.low.getD v 0) (s'.low.getD u 0)) :
    VRun n nx gray s0 v (k + 1) { s' with low := s'.low.set v a } (t ++ t2) := by
  have hd := getD_at hv
  obtain ⟨h1, h2⟩ := adjN_get (v := v) (k := k) (nx := nx) (u := u) (by rw [hd]; exact hk) (by simp only [hd]; exact hu)
  have := h.ct; have := h.lt; have := hd'.ct; have := hd'.lt
  refine ⟨⟨hd'.ok.li, by simp [hd'.ok.ll], hd'.ok.lc, hd'.ok.ck, hd'.ok.sk, hd'.ok.ct⟩, ?_, by show s'.cnt + s'.idx.count 0 + 1 ≤ _; omega, by show s'.idx.count 0 < _; omega⟩
  exact h.lp.stepTree h1 h2 (adjE_of hv (by rw [← hu]; exact List.getElem_mem hk)) hi h0 hd'.inv hd'.ext hd'.post (fun x => by subst ha; exact fn_set (by rw [hd'.ok.ll]; exact hvn) x)
theorem VRun.child (h : VRun n nx gray s0 v k s t) (hg : ∀ g ∈ gray, Rch (adjE nx) g v) (hv : v < nx.length) (hk : k < nx[v].length) {u : Nat} (hu : nx[v][k] = (u : Int)) : ∀ g ∈ gray ++ [v], Rch (adjE nx) g u := fun g hm => by
  have hE : adjE nx v u := adjE_of hv (by rw [← hu]; exact List.getElem_mem hk)
  rcases List.mem_append.1 hm with hm | hm
  · exact (hg g hm).tail hE
  · simp at hm; subst hm; exact .one hE
theorem VRun.leave (h : VRun n nx gray s0 v k s t) (h0 : TInv n (adjE nx) gray s0.ts) (hv : v < nx.length) (hk : ¬ k < nx[v].length) (hne : s.low.getD v 0 ≠ s.idx.getD v 0) : VDone n nx gray s0 v s (v :: t) := by
  have hl : (adjN nx v).length ≤ k := by simp only [adjN, List.length_map, getD_at hv]; omega
  obtain ⟨h1, h2, h3⟩ := h.lp.leave h0 hl (fun u hu => adjN_of hu) hne
  exact ⟨h.ok, h1, h2, h3, by have := h.ct; omega, h.lt⟩
theorem VRun.pop (h : VRun n nx gray s0 v k s t) (h0 : TInv n (adjE nx) gray s0.ts) (hok0 : TLok n s0) (hv : v < nx.length) (hk : ¬ k < nx[v].length) (he : s.low.getD v 0 = s.idx.getD v 0) {comp : List Int} (hl : comp.length = n) (hc : ∀ x, comp.getD x (-1) = if x ∈ v :: t then (s.cnt : Int) else s.comp.getD x (-1)) :
    VDone n nx gray s0 v { s with comp := comp, stk := s0.stk, cnt := s.cnt + 1 } [] := by
  have hl' : (adjN nx v).length ≤ k := by simp only [adjN, List.length_map, getD_at hv]; omega
  obtain ⟨h1, h2, h3⟩ := h.lp.pop h0 hl' (fun u hu => adjN_of hu) he hc
  have := h.ct; have := h.ok.ct; have := hok0.sk; have h8 := hok0.ct
  have h9 : s0.clk ≤ s.clk := h.lp.clk
  refine ⟨⟨h.ok.li, h.ok.ll, hl, h.ok.ck, by show s0.stk.length ≤ s.clk; omega, ?_⟩, h1, h2, h3, by show s.cnt + 1 + s.idx.count 0 ≤ _; omega, h.lt⟩
  show s.cnt + 1 + s.idx.count 0 ≤ n
  omega
theorem rowP.cap {b : Option Addr} {c : Nat} {T : TypeId} {cs : List Value} {w : World} (h : rowP b c T 1 cs w) : cs.length ≤ c := by
  cases b with
  | none => obtain ⟨rfl, rfl⟩ := h; exact Nat.le_refl _
  | some a => obtain ⟨_, _, _, h3, _⟩ := h; omega
theorem gd {l : List Nat} {v : Nat} (h : v < l.length) : l.getD v 0 = l[v] := by simp [h]
theorem gz {l : List Int} {v : Nat} (h : v < l.length) : l.getD v (-1) = l[v] := by simp [h]
theorem tlok_start (n : Nat) : TLok n { idx := List.replicate n 0, low := List.replicate n 0, comp := List.replicate n (-1), stk := [], clk := 0, cnt := 0 } :=
  ⟨by simp, by simp, by simp, by simp, by simp, by simp⟩
theorem tinv_start {nx : List (List Int)} (n : Nat) : TInv n (adjE nx) [] (TL.ts { idx := List.replicate n 0, low := List.replicate n 0, comp := List.replicate n (-1), stk := [], clk := 0, cnt := 0 }) := by
  have h := TInv.start (E := adjE nx) n (fun _ => 0)
  refine TInv.ext (idx := fn (List.replicate n 0)) (low := fn (List.replicate n 0)) (comp := fz (List.replicate n (-1))) h (fun x => ?_) (fun x => ?_)
  · show (List.replicate n 0).getD x 0 = 0
    rw [List.getD_eq_getElem?_getD, List.getElem?_replicate]; split <;> rfl
  · show (List.replicate n (-1 : Int)).getD x (-1) = -1
    rw [List.getD_eq_getElem?_getD, List.getElem?_replicate]; split <;> rfl
theorem vis_snoc {l : List Nat} {k : Nat} (h : ∀ x, x < k → l.getD x 0 ≠ 0) (hk : l.getD k 0 ≠ 0) : ∀ x, x < k + 1 → l.getD x 0 ≠ 0 := fun x hx => by
  by_cases e : x = k
  · subst e; exact hk
  · exact h x (by omega)
theorem vis_step {s s2 : TL} {t : List Nat} {k : Nat} (he : TExt s.ts s2.ts t) (h : ∀ x, x < k → s.idx.getD x 0 ≠ 0) (hk : s2.ts.idx k ≠ 0) : ∀ x, x < k + 1 → s2.idx.getD x 0 ≠ 0 :=
  vis_snoc (fun x hx => by
    have := he.idx x (h x hx)
    show s2.ts.idx x ≠ 0
    rw [this]; exact h x hx) hk
theorem set_take {cp : List Int} {k : Nat} {a : Int} (h : cp.take k = List.replicate k a) (hk : k < cp.length) : (cp.set k a).take (k + 1) = List.replicate (k + 1) a := by
  rw [List.take_succ_eq_append_getElem (by simpa using hk), List.getElem_set_self, List.take_set_of_le (Nat.le_refl _), h, List.replicate_succ']
theorem pop_split {a t1 st2 : List Nat} {v u : Nat} (h : a ++ v :: t1 = st2 ++ [u]) (hne : u ≠ v) : ∃ t1b, t1 = t1b ++ [u] ∧ st2 = a ++ v :: t1b := by
  rcases List.eq_nil_or_concat t1 with rfl | ⟨t1b, x, rfl⟩
  · have := (List.append_inj' h rfl).2
    simp at this; exact absurd this.symm hne
  · have h' : (a ++ v :: t1b) ++ [x] = st2 ++ [u] := by rw [← h]; simp
    have h2 := List.append_inj' h' rfl
    simp at h2
    exact ⟨t1b, by rw [h2.2]; simp, h2.1.symm⟩
theorem pop_last {a t1 st2 : List Nat} {v u : Nat} (h : a ++ v :: t1 = st2 ++ [u]) (hu : u = v) (hv : v ∉ t1) : t1 = [] ∧ st2 = a := by
  rcases List.eq_nil_or_concat t1 with rfl | ⟨t1b, x, rfl⟩
  · exact ⟨rfl, (List.append_inj' h rfl).1.symm⟩
  · have h' : (a ++ v :: t1b) ++ [x] = st2 ++ [u] := by rw [← h]; simp
    have h2 := (List.append_inj' h' rfl).2
    simp at h2 hv
    exact absurd (h2.trans hu).symm hv.2
theorem fz_pop {cp : List Int} {u : Nat} {c : Int} {pop : List Nat} {g : Nat → Int} (hu : u < cp.length) (h : ∀ x, cp.getD x (-1) = if x ∈ pop then c else g x) (x : Nat) : (cp.set u c).getD x (-1) = if x ∈ u :: pop then c else g x := by
  have := fz_set (a := c) hu x
  rw [show (cp.set u c).getD x (-1) = fz (cp.set u c) x from rfl, this]
  by_cases e : x = u
  · simp [e]
  · rw [if_neg e, show fz cp x = cp.getD x (-1) from rfl, h x]
    simp [e]
end
end Go.Lx


namespace Go.Lx
open Go.RowKit
set_option linter.unusedVariables false
def mkM (nx : List (List Int)) (ms : List Nat) (k v : Nat) : Prop := v < nx.length ∧ (ms.getD v 0).testBit k = true
def okRows (nx : List (List Int)) : Prop := ∀ r ∈ nx, ∀ x ∈ r, 0 ≤ x ∧ x < (nx.length : Int)
theorem adjE_lt {nx : List (List Int)} (h : okRows nx) {u v : Nat} (he : adjE nx u v) : u < nx.length ∧ v < nx.length := by
  obtain ⟨r, h1, h2⟩ := he
  obtain ⟨hl, e⟩ := List.getElem?_eq_some_iff.1 h1
  have := h r (by rw [← e]; exact List.getElem_mem hl) _ h2
  exact ⟨hl, by omega⟩
section
variable {nx : List (List Int)} {ms : List Nat} {m cnt : Nat} {cn : List Nat}
abbrev CompN (nx : List (List Int)) (cn : List Nat) (cnt : Nat) : Prop := CompOk nx.length (adjE nx) (fun v => ((fn cn v : Nat) : Int)) cnt
def seen (nx : List (List Int)) (k j v u : Nat) : Prop := (v < k ∧ adjE nx v u) ∨ (v = k ∧ (u : Int) ∈ (nx.getD k []).take j)
structure CyP (nx : List (List Int)) (cn : List Nat) (cnt k j : Nat) (cy : List Bool) : Prop where
  l : cy.length = cnt
  h : ∀ c, cy.getD c false = true ↔ ∃ v u, seen nx k j v u ∧ fn cn v = c ∧ fn cn u = c
theorem CyP.start : CyP nx cn cnt 0 0 (List.replicate cnt false) := by
  refine ⟨by simp, fun c => ⟨fun h => ?_, ?_⟩⟩
  · rw [List.getD_eq_getElem?_getD, List.getElem?_replicate] at h
    split at h <;> simp at h
  · rintro ⟨v, u, h, _⟩
    rcases h with h | h
    · omega
    · simp at h
theorem seen_row {k v u : Nat} (hk : k < nx.length) : seen nx k nx[k].length v u ↔ seen nx (k + 1) 0 v u := by
  unfold seen
  have hd : nx.getD k [] = nx[k] := getD_at hk
  rw [hd, List.take_of_length_le (Nat.le_refl _)]
  constructor
  · rintro (h | ⟨rfl, h⟩)
    · exact .inl ⟨by omega, h.2⟩
    · exact .inl ⟨by omega, adjE_of hk h⟩
  · rintro (h | h)
    · by_cases e : v = k
      · subst e
        obtain ⟨r, h1, h2⟩ := h.2
        rw [List.getElem?_eq_getElem hk] at h1
        cases h1
        exact .inr ⟨rfl, h2⟩
      · exact .inl ⟨by omega, h.2⟩
    · simp at h
theorem seen_snoc {k j v u : Nat} (hk : k < nx.length) (hj : j < nx[k].length) {x : Nat} (hx : nx[k][j] = (x : Int)) : seen nx k (j + 1) v u ↔ seen nx k j v u ∨ (v = k ∧ u = x) := by
  unfold seen
  have hd : nx.getD k [] = nx[k] := getD_at hk
  rw [hd, List.take_succ_eq_append_getElem hj, List.mem_append, List.mem_singleton, hx]
  constructor
  · rintro (h | ⟨h1, h2 | h2⟩)
    · exact .inl (.inl h)
    · exact .inl (.inr ⟨h1, h2⟩)
    · exact .inr ⟨h1, by omega⟩
  · rintro ((h | h) | h)
    · exact .inl h
    · exact .inr ⟨h.1, .inl h.2⟩
    · exact .inr ⟨h.1, .inr (by omega)⟩
theorem CyP.row {cy : List Bool} {k j : Nat} (h : CyP nx cn cnt k j cy) (hk : k < nx.length) (hj : ¬ j < nx[k].length) (hj2 : j ≤ nx[k].length) : CyP nx cn cnt (k + 1) 0 cy := by
  have : j = nx[k].length := by omega
  subst this
  exact ⟨h.l, fun c => by rw [h.h]; simp only [seen_row hk]⟩
theorem CyP.step {cy : List Bool} {k j x : Nat} (h : CyP nx cn cnt k j cy) (hk : k < nx.length) (hj : j < nx[k].length) (hx : nx[k][j] = (x : Int)) (hc : fn cn k < cnt) {b : Bool} (hb : b = true ↔ cy.getD (fn cn k) false = true ∨ fn cn x = fn cn k) : CyP nx cn cnt k (j + 1) (cy.set (fn cn k) b) := by
  refine ⟨by simp [h.l], fun c => ?_⟩
  have hs := fb_set (a := b) (l := cy) (v := fn cn k) (by rw [h.l]; exact hc) c
  rw [show (cy.set (fn cn k) b).getD c false = fb (cy.set (fn cn k) b) c from rfl, hs]
  simp only [seen_snoc hk hj hx]
  by_cases e : c = fn cn k
  · subst e
    rw [if_pos rfl, hb, h.h]
    constructor
    · rintro (⟨v, u, h1, h2, h3⟩ | h1)
      · exact ⟨v, u, .inl h1, h2, h3⟩
      · exact ⟨k, x, .inr ⟨rfl, rfl⟩, rfl, h1⟩
    · rintro ⟨v, u, h1 | ⟨rfl, rfl⟩, h2, h3⟩
      · exact .inl ⟨v, u, h1, h2, h3⟩
      · exact .inr h3
  · rw [if_neg e, show fb cy c = cy.getD c false from rfl, h.h]
    constructor
    · rintro ⟨v, u, h1, h2, h3⟩
      exact ⟨v, u, .inl h1, h2, h3⟩
    · rintro ⟨v, u, h1 | ⟨rfl, rfl⟩, h2, h3⟩
      · exact ⟨v, u, h1, h2, h3⟩
      · exact absurd h2.symm e
structure HaP (nx : List (List Int)) (ms cn : List Nat) (m cnt k : Nat) (ha : List Nat) : Prop where
  l : ha.length = cnt
  b : ∀ c, ha.getD c 0 < 2 ^ m
  h : ∀ c i, (ha.getD c 0).testBit i = true ↔ ∃ v, v < k ∧ fn cn v = c ∧ (ms.getD v 0).testBit i = true
theorem HaP.start : HaP nx ms cn m cnt 0 (List.replicate cnt 0) := by
  have h0 : ∀ c, (List.replicate cnt 0).getD c 0 = 0 := fun c => by
    rw [List.getD_eq_getElem?_getD, List.getElem?_replicate]; split <;> rfl
  refine ⟨by simp, fun c => by rw [h0]; exact Nat.two_pow_pos m, fun c i => ⟨fun h => ?_, ?_⟩⟩
  · rw [h0] at h; simp at h
  · rintro ⟨v, h, _⟩; omega
theorem HaP.step {ha : List Nat} {k : Nat} (h : HaP nx ms cn m cnt k ha) (hc : fn cn k < cnt) (hm : ms.getD k 0 < 2 ^ m) {a : Nat} (hab : a = ha.getD (fn cn k) 0 ||| ms.getD k 0) : HaP nx ms cn m cnt (k + 1) (ha.set (fn cn k) a) := by
  have hs := fun c => fn_set (a := a) (l := ha) (v := fn cn k) (by rw [h.l]; exact hc) c
  have hs' : ∀ c, (ha.set (fn cn k) a).getD c 0 = if c = fn cn k then a else ha.getD c 0 := hs
  refine ⟨by simp [h.l], fun c => ?_, fun c i => ?_⟩
  · rw [hs']; split
    · subst hab; exact Nat.or_lt_two_pow (h.b _) hm
    · exact h.b c
  · rw [hs']
    by_cases e : c = fn cn k
    · subst e
      rw [if_pos rfl, hab, Nat.testBit_or, Bool.or_eq_true, h.h]
      constructor
      · rintro (⟨v, h1, h2, h3⟩ | h1)
        · exact ⟨v, by omega, h2, h3⟩
        · exact ⟨k, by omega, rfl, h1⟩
      · rintro ⟨v, h1, h2, h3⟩
        by_cases e : v = k
        · subst e; exact .inr h3
        · exact .inl ⟨v, by omega, h2, h3⟩
    · rw [if_neg e, h.h]
      constructor
      · rintro ⟨v, h1, h2, h3⟩; exact ⟨v, by omega, h2, h3⟩
      · rintro ⟨v, h1, h2, h3⟩
        by_cases e' : v = k
        · subst e'; exact absurd h2.symm e
        · exact ⟨v, by omega, h2, h3⟩
theorem full_iff {a m : Nat} (h : a < 2 ^ m) : a = 2 ^ m - 1 ↔ ∀ i, i < m → a.testBit i = true := by
  constructor
  · rintro rfl i hi; rw [Nat.testBit_two_pow_sub_one]; simpa using hi
  · intro hb
    apply Nat.eq_of_testBit_eq
    intro i
    rw [Nat.testBit_two_pow_sub_one]
    by_cases hi : i < m
    · rw [hb i hi]; simp [hi]
    · rw [Nat.testBit_lt_two_pow (Nat.lt_of_lt_of_le h (Nat.pow_le_pow_right (by omega) (by omega)))]; simp [hi]
theorem core_iff (hC : CompN nx cn cnt) (hok : okRows nx) {cy : List Bool} {ha : List Nat} (hy : CyP nx cn cnt nx.length 0 cy) (hh : HaP nx ms cn m cnt nx.length ha) {v c : Nat} (hv : v < nx.length) (hc : fn cn v = c) :
    (cy.getD c false = true ∧ ha.getD c 0 = 2 ^ m - 1) ↔ Core (adjE nx) m (mkM nx ms) v := by
  rw [core_comp hC (fun u v h => adjE_lt hok h) (fun k v h => h.1) hv, hy.h, full_iff (hh.b c)]
  constructor
  · rintro ⟨⟨a, b, h1, h2, h3⟩, h4⟩
    refine ⟨⟨a, b, ?_, by show ((fn cn a : Nat) : Int) = fn cn v; omega, by show ((fn cn b : Nat) : Int) = fn cn v; omega⟩, fun k hk => ?_⟩
    · rcases h1 with h1 | ⟨rfl, h1⟩
      · exact h1.2
      · simp at h1
    · obtain ⟨u, h5, h6, h7⟩ := (hh.h c k).1 (h4 k hk)
      exact ⟨u, ⟨h5, h7⟩, by show ((fn cn u : Nat) : Int) = fn cn v; omega⟩
  · rintro ⟨⟨a, b, h1, h2, h3⟩, h4⟩
    refine ⟨⟨a, b, .inl ⟨(adjE_lt hok h1).1, h1⟩, by have : ((fn cn a : Nat) : Int) = fn cn v := h2; omega, by have : ((fn cn b : Nat) : Int) = fn cn v := h3; omega⟩, fun k hk => ?_⟩
    obtain ⟨u, h5, h6⟩ := h4 k hk
    exact (hh.h c k).2 ⟨u, h5.1, by have : ((fn cn u : Nat) : Int) = fn cn v := h6; omega, h5.2⟩
structure OrP (nx : List (List Int)) (cn : List Nat) (cnt k : Nat) (os : List (List Int)) : Prop where
  l : os.length = cnt
  n : ∀ c, (os.getD c []).length ≤ k
  h : ∀ c x, c < cnt → (x ∈ os.getD c [] ↔ ∃ v : Nat, x = (v : Int) ∧ v < k ∧ fn cn v = c)
theorem OrP.start : OrP nx cn cnt 0 (List.replicate cnt []) := by
  have h0 : ∀ c, (List.replicate cnt ([] : List Int)).getD c [] = [] := fun c => by
    rw [List.getD_eq_getElem?_getD, List.getElem?_replicate]; split <;> rfl
  refine ⟨by simp, fun c => by rw [h0]; exact Nat.le_refl _, fun c x hc => ?_⟩
  rw [h0]
  constructor
  · intro h; cases h
  · rintro ⟨v, _, h, _⟩; omega
theorem OrP.step {os : List (List Int)} {k : Nat} (h : OrP nx cn cnt k os) (hc : fn cn k < cnt) : OrP nx cn cnt (k + 1) (os.set (fn cn k) (os.getD (fn cn k) [] ++ [(k : Int)])) := by
  have hs : ∀ c, (os.set (fn cn k) (os.getD (fn cn k) [] ++ [(k : Int)])).getD c [] = if c = fn cn k then os.getD (fn cn k) [] ++ [(k : Int)] else os.getD c [] := fun c => by
    rw [List.getD_eq_getElem?_getD, List.getElem?_set]
    by_cases e : fn cn k = c
    · subst e; rw [if_pos rfl, if_pos (by rw [h.l]; exact hc), if_pos rfl]; rfl
    · rw [if_neg e, if_neg (fun h => e h.symm)]; simp
  refine ⟨by simp [h.l], fun c => ?_, fun c x hcc => ?_⟩
  · rw [hs]; split
    · have := h.n (fn cn k); simp; exact this
    · have := h.n c; omega
  · rw [hs]
    by_cases e : c = fn cn k
    · subst e
      rw [if_pos rfl, List.mem_append, List.mem_singleton, h.h _ _ hc]
      constructor
      · rintro (⟨v, h1, h2, h3⟩ | rfl)
        · exact ⟨v, h1, by omega, h3⟩
        · exact ⟨k, rfl, by omega, rfl⟩
      · rintro ⟨v, h1, h2, h3⟩
        by_cases e : v = k
        · subst e; exact .inr h1
        · exact .inl ⟨v, h1, by omega, h3⟩
    · rw [if_neg e, h.h c x hcc]
      constructor
      · rintro ⟨v, h1, h2, h3⟩; exact ⟨v, h1, by omega, h3⟩
      · rintro ⟨v, h1, h2, h3⟩
        by_cases e' : v = k
        · subst e'; exact absurd h3.symm e
        · exact ⟨v, h1, by omega, h3⟩
def Cor (nx : List (List Int)) (ms : List Nat) (m v : Nat) : Prop := Core (adjE nx) m (mkM nx ms) v
def Liv (nx : List (List Int)) (ms : List Nat) (m v : Nat) : Prop := LiveG (adjE nx) m (mkM nx ms) v
theorem Liv.edge {u v : Nat} (h : Liv nx ms m u) (he : adjE nx v u) : Liv nx ms m v := LiveG.back h (.one he)
theorem Liv.same (hC : CompN nx cn cnt) {u v : Nat} (h : Liv nx ms m u) (hv : v < nx.length) (hu : u < nx.length) (e : fn cn v = fn cn u) : Liv nx ms m v := LiveG.back h (hC.cls v u hv hu (by show ((fn cn v : Nat) : Int) = fn cn u; omega))
theorem Cor.live {v : Nat} (h : Cor nx ms m v) : Liv nx ms m v := ⟨v, .refl _, h⟩
structure LvP (nx : List (List Int)) (ms : List Nat) (m : Nat) (cn : List Nat) (cnt c : Nat) (gs ls cs : List Bool) : Prop where
  lg : gs.length = cnt
  ll : ls.length = nx.length
  lc : cs.length = nx.length
  g : ∀ v, v < nx.length → fn cn v < c → (gs.getD (fn cn v) false = true ↔ Liv nx ms m v)
  li : ∀ v, v < nx.length → fn cn v < c → (ls.getD v false = true ↔ Liv nx ms m v)
  co : ∀ v, v < nx.length → fn cn v < c → (cs.getD v false = true ↔ Cor nx ms m v)
structure LvC (nx : List (List Int)) (ms : List Nat) (m : Nat) (cn : List Nat) (cnt c : Nat) (row : List Int) (j : Nat) (gs ls cs : List Bool) : Prop where
  lg : gs.length = cnt
  ll : ls.length = nx.length
  lc : cs.length = nx.length
  g : ∀ v, v < nx.length → fn cn v < c → (gs.getD (fn cn v) false = true ↔ Liv nx ms m v)
  li : ∀ v, v < nx.length → fn cn v < c → (ls.getD v false = true ↔ Liv nx ms m v)
  co : ∀ v, v < nx.length → (fn cn v < c ∨ (v : Int) ∈ row.take j) → (cs.getD v false = true ↔ Cor nx ms m v)
  b0 : ∀ v, v < nx.length → fn cn v = c → (gs.getD c false = true ↔ Cor nx ms m v)
theorem getB_set {l : List Bool} {v : Nat} {a : Bool} (h : v < l.length) (x : Nat) : (l.set v a).getD x false = if x = v then a else l.getD x false := fb_set h x
theorem LvP.begin {c : Nat} {gs ls cs : List Bool} (h : LvP nx ms m cn cnt c gs ls cs) (hc : c < cnt) {row : List Int} {b : Bool} (hb : ∀ v, v < nx.length → fn cn v = c → (b = true ↔ Cor nx ms m v)) : LvC nx ms m cn cnt c row 0 (gs.set c b) ls cs := by
  have hs := fun x => getB_set (a := b) (l := gs) (v := c) (by rw [h.lg]; exact hc) x
  refine ⟨by simp [h.lg], h.ll, h.lc, fun v hv hlt => ?_, h.li, fun v hv hor => ?_, fun v hv e => ?_⟩
  · rw [hs, if_neg (by omega)]; exact h.g v hv hlt
  · rcases hor with hor | hor
    · exact h.co v hv hor
    · simp at hor
  · rw [hs, if_pos rfl]; exact hb v hv e
theorem LvC.coreStep {c j : Nat} {gs ls cs : List Bool} {row : List Int} (h : LvC nx ms m cn cnt c row j gs ls cs) (hj : j < row.length) {x : Nat} (hx : row[j] = (x : Int)) (hxl : x < nx.length) (hxc : fn cn x = c) {b : Bool} (hb : b = gs.getD c false) : LvC nx ms m cn cnt c row (j + 1) gs ls (cs.set x b) := by
  have hs := fun y => getB_set (a := b) (l := cs) (v := x) (by rw [h.lc]; exact hxl) y
  refine ⟨h.lg, h.ll, by simp [h.lc], h.g, h.li, fun v hv hor => ?_, h.b0⟩
  rw [hs]
  by_cases e : v = x
  · subst e; rw [if_pos rfl, hb]; exact h.b0 v hxl hxc
  · rw [if_neg e]
    refine h.co v hv ?_
    rcases hor with hor | hor
    · exact .inl hor
    · rw [List.take_succ_eq_append_getElem hj, List.mem_append, List.mem_singleton, hx] at hor
      rcases hor with hor | hor
      · exact .inr hor
      · exact absurd (by omega) e
structure LvD (nx : List (List Int)) (ms : List Nat) (m : Nat) (cn : List Nat) (cnt c : Nat) (row : List Int) (j i : Nat) (gs ls cs : List Bool) : Prop where
  lg : gs.length = cnt
  ll : ls.length = nx.length
  lc : cs.length = nx.length
  g : ∀ v, v < nx.length → fn cn v < c → (gs.getD (fn cn v) false = true ↔ Liv nx ms m v)
  li : ∀ v, v < nx.length → fn cn v < c → (ls.getD v false = true ↔ Liv nx ms m v)
  co : ∀ v, v < nx.length → fn cn v ≤ c → (cs.getD v false = true ↔ Cor nx ms m v)
  b0 : ∀ v, v < nx.length → fn cn v = c → Cor nx ms m v → gs.getD c false = true
  sd : gs.getD c false = true → ∀ v, v < nx.length → fn cn v = c → Liv nx ms m v
  pr : ∀ v u : Nat, (((v : Int) ∈ row.take j ∧ adjE nx v u) ∨ (row[j]? = some (v : Int) ∧ (u : Int) ∈ (nx.getD v []).take i)) → fn cn u < c → Liv nx ms m u → gs.getD c false = true
theorem LvC.toD {c j : Nat} {gs ls cs : List Bool} {row : List Int} (h : LvC nx ms m cn cnt c row j gs ls cs) (hj : ¬ j < row.length) (hrow : ∀ v : Nat, v < nx.length → fn cn v = c → (v : Int) ∈ row) : LvD nx ms m cn cnt c row 0 0 gs ls cs := by
  refine ⟨h.lg, h.ll, h.lc, h.g, h.li, fun v hv hle => ?_, fun v hv e hc => (h.b0 v hv e).2 hc, fun hg v hv e => Cor.live ((h.b0 v hv e).1 hg), fun v u hor => ?_⟩
  · refine h.co v hv ?_
    by_cases e : fn cn v = c
    · right; rw [List.take_of_length_le (by omega)]; exact hrow v hv e
    · left; omega
  · rcases hor with hor | hor
    · simp at hor
    · simp at hor
theorem LvD.step {c j i : Nat} {gs ls cs : List Bool} {row : List Int} (hC : CompN nx cn cnt) (hok : okRows nx) (h : LvD nx ms m cn cnt c row j i gs ls cs) (hc : c < cnt) (hj : j < row.length) {x u : Nat} (hx : row[j] = (x : Int)) (hxl : x < nx.length) (hxc : fn cn x = c) (hi : i < nx[x].length) (hu : nx[x][i] = (u : Int)) {b : Bool} (hb : b = true ↔ gs.getD c false = true ∨ gs.getD (fn cn u) false = true) :
    LvD nx ms m cn cnt c row j (i + 1) (gs.set c b) ls cs := by
  have hs := fun y => getB_set (a := b) (l := gs) (v := c) (by rw [h.lg]; exact hc) y
  have hE : adjE nx x u := adjE_of hxl (by rw [← hu]; exact List.getElem_mem hi)
  have hul := (adjE_lt hok hE).2
  have hle : fn cn u ≤ c := by
    have := hC.clo x u hxl hE
    have : ((fn cn u : Nat) : Int) ≤ fn cn x := this
    omega
  refine ⟨by simp [h.lg], h.ll, h.lc, fun v hv hlt => ?_, h.li, h.co, fun v hv e hcv => ?_, fun hg v hv e => ?_, fun v w hor hlt hL => ?_⟩
  · rw [hs, if_neg (by omega)]; exact h.g v hv hlt
  · rw [hs, if_pos rfl, hb]; exact .inl (h.b0 v hv e hcv)
  · rw [hs, if_pos rfl, hb] at hg
    rcases hg with hg | hg
    · exact h.sd hg v hv e
    · by_cases e2 : fn cn u = c
      · rw [e2] at hg; exact h.sd hg v hv e
      · have hLu := (h.g u hul (by omega)).1 hg
        exact Liv.same hC (hLu.edge hE) hv hxl (by omega)
  · rw [hs, if_pos rfl, hb]
    rcases hor with hor | ⟨h1, h2⟩
    · exact .inl (h.pr v w (.inl hor) hlt hL)
    · rw [List.getElem?_eq_getElem hj, hx] at h1
      have hvx : v = x := by have := Option.some.inj h1; omega
      subst hvx
      rw [getD_at hxl, List.take_succ_eq_append_getElem hi, List.mem_append, List.mem_singleton, hu] at h2
      rcases h2 with h2 | h2
      · exact .inl (h.pr v w (.inr ⟨by rw [List.getElem?_eq_getElem hj, hx], by rw [getD_at hxl]; exact h2⟩) hlt hL)
      · have : w = u := by omega
        subst this
        exact .inr ((h.g w hul hlt).2 hL)
theorem LvD.next {c j i : Nat} {gs ls cs : List Bool} {row : List Int} (h : LvD nx ms m cn cnt c row j i gs ls cs) (hj : j < row.length) {x : Nat} (hx : row[j] = (x : Int)) (hxl : x < nx.length) (hi : ¬ i < nx[x].length) : LvD nx ms m cn cnt c row (j + 1) 0 gs ls cs := by
  refine { h with pr := fun v u hor hlt hL => ?_ }
  rcases hor with ⟨h1, h2⟩ | ⟨_, h2⟩
  · rw [List.take_succ_eq_append_getElem hj, List.mem_append, List.mem_singleton, hx] at h1
    rcases h1 with h1 | h1
    · exact h.pr v u (.inl ⟨h1, h2⟩) hlt hL
    · have : v = x := by omega
      subst this
      refine h.pr v u (.inr ⟨by rw [List.getElem?_eq_getElem hj, hx], ?_⟩) hlt hL
      rw [getD_at hxl, List.take_of_length_le (by omega)]
      obtain ⟨r, h3, h4⟩ := h2
      rw [List.getElem?_eq_getElem hxl] at h3; cases h3; exact h4
  · simp at h2
theorem leaves (hC : CompN nx cn cnt) (hok : okRows nx) {v w : Nat} (h : Rch (adjE nx) v w) (hv : v < nx.length) : fn cn w = fn cn v ∨ ∃ a b, fn cn a = fn cn v ∧ a < nx.length ∧ adjE nx a b ∧ fn cn b < fn cn v ∧ Rch (adjE nx) b w := by
  induction h with
  | refl => exact .inl rfl
  | @step a b w e hr ih =>
    have hb := (adjE_lt hok e).2
    have hle : fn cn b ≤ fn cn a := by
      have : ((fn cn b : Nat) : Int) ≤ fn cn a := hC.clo a b hv e
      omega
    by_cases e2 : fn cn b = fn cn a
    · rcases ih hb with h1 | ⟨p, q, h1, h2, h3, h4, h5⟩
      · exact .inl (by omega)
      · exact .inr ⟨p, q, by omega, h2, h3, by omega, h5⟩
    · exact .inr ⟨a, b, rfl, hv, e, by omega, hr⟩
theorem LvD.flag {c j i : Nat} {gs ls cs : List Bool} {row : List Int} (hC : CompN nx cn cnt) (hok : okRows nx) (h : LvD nx ms m cn cnt c row j i gs ls cs) (hj : ¬ j < row.length) (hrow : ∀ v : Nat, v < nx.length → fn cn v = c → (v : Int) ∈ row) {v : Nat} (hv : v < nx.length) (e : fn cn v = c) : gs.getD c false = true ↔ Liv nx ms m v := by
  refine ⟨fun hg => h.sd hg v hv e, ?_⟩
  rintro ⟨w, h1, h2⟩
  have hw : w < nx.length := (CompOk.rch hC (fun u v h => adjE_lt hok h) hv h1).2
  rcases leaves hC hok h1 hv with h3 | ⟨a, b, h3, h4, h5, h6, h7⟩
  · exact h.b0 w hw (by omega) h2
  · refine h.pr a b (.inl ⟨?_, h5⟩) (by omega) ⟨w, h7, h2⟩
    rw [List.take_of_length_le (by omega)]
    exact hrow a h4 (by omega)
structure LvE (nx : List (List Int)) (ms : List Nat) (m : Nat) (cn : List Nat) (cnt c : Nat) (row : List Int) (j : Nat) (gs ls cs : List Bool) : Prop where
  lg : gs.length = cnt
  ll : ls.length = nx.length
  lc : cs.length = nx.length
  g : ∀ v, v < nx.length → fn cn v ≤ c → (gs.getD (fn cn v) false = true ↔ Liv nx ms m v)
  li : ∀ v, v < nx.length → (fn cn v < c ∨ (v : Int) ∈ row.take j) → (ls.getD v false = true ↔ Liv nx ms m v)
  co : ∀ v, v < nx.length → fn cn v ≤ c → (cs.getD v false = true ↔ Cor nx ms m v)
theorem LvD.toE {c j i : Nat} {gs ls cs : List Bool} {row : List Int} (hC : CompN nx cn cnt) (hok : okRows nx) (h : LvD nx ms m cn cnt c row j i gs ls cs) (hj : ¬ j < row.length) (hrow : ∀ v : Nat, v < nx.length → fn cn v = c → (v : Int) ∈ row) : LvE nx ms m cn cnt c row 0 gs ls cs := by
  refine ⟨h.lg, h.ll, h.lc, fun v hv hle => ?_, fun v hv hor => ?_, h.co⟩
  · by_cases e : fn cn v = c
    · rw [e]; exact h.flag hC hok hj hrow hv e
    · exact h.g v hv (by omega)
  · rcases hor with hor | hor
    · exact h.li v hv hor
    · simp at hor
theorem LvE.step {c j : Nat} {gs ls cs : List Bool} {row : List Int} (h : LvE nx ms m cn cnt c row j gs ls cs) (hj : j < row.length) {x : Nat} (hx : row[j] = (x : Int)) (hxl : x < nx.length) (hxc : fn cn x = c) {b : Bool} (hb : b = gs.getD c false) : LvE nx ms m cn cnt c row (j + 1) gs (ls.set x b) cs := by
  have hs := fun y => getB_set (a := b) (l := ls) (v := x) (by rw [h.ll]; exact hxl) y
  refine ⟨h.lg, by simp [h.ll], h.lc, h.g, fun v hv hor => ?_, h.co⟩
  rw [hs]
  by_cases e : v = x
  · subst e; rw [if_pos rfl, hb, ← hxc]; exact h.g v hxl (by omega)
  · rw [if_neg e]
    refine h.li v hv ?_
    rcases hor with hor | hor
    · exact .inl hor
    · rw [List.take_succ_eq_append_getElem hj, List.mem_append, List.mem_singleton, hx] at hor
      rcases hor with hor | hor
      · exact .inr hor
      · exact absurd (by omega) e
theorem LvE.done {c j : Nat} {gs ls cs : List Bool} {row : List Int} (h : LvE nx ms m cn cnt c row j gs ls cs) (hj : ¬ j < row.length) (hrow : ∀ v : Nat, v < nx.length → fn cn v = c → (v : Int) ∈ row) : LvP nx ms m cn cnt (c + 1) gs ls cs := by
  refine ⟨h.lg, h.ll, h.lc, fun v hv hlt => h.g v hv (by omega), fun v hv hlt => ?_, fun v hv hlt => h.co v hv (by omega)⟩
  refine h.li v hv ?_
  by_cases e : fn cn v = c
  · right; rw [List.take_of_length_le (by omega)]; exact hrow v hv e
  · left; omega
theorem LvP.start {gs ls cs : List Bool} (h1 : gs.length = cnt) (h2 : ls.length = nx.length) (h3 : cs.length = nx.length) : LvP nx ms m cn cnt 0 gs ls cs :=
  ⟨h1, h2, h3, fun v _ h => by omega, fun v _ h => by omega, fun v _ h => by omega⟩
theorem ints_nats {cp : List Int} (h : ∀ v, v < cp.length → 0 ≤ fz cp v) : ints cp = nats (cp.map Int.toNat) := by
  apply List.ext_getElem
  · simp
  · intro i h1 h2
    have hi : i < cp.length := by simpa using h1
    have := h i hi
    rw [fz_get hi] at this
    simp [Int.toNat_of_nonneg this]
theorem comp_nats {cp : List Int} {cnt : Nat} (hl : cp.length = nx.length) (h : CompOk nx.length (adjE nx) (fz cp) cnt) (hok : okRows nx) : CompN nx (cp.map Int.toNat) cnt := by
  have key : ∀ v, v < nx.length → ((fn (cp.map Int.toNat) v : Nat) : Int) = fz cp v := fun v hv => by
    have h0 := (h.pos v hv).1
    rw [fn_get (by rw [List.length_map, hl]; exact hv), List.getElem_map]
    rw [fz_get (by rw [hl]; exact hv)] at h0 ⊢
    exact Int.toNat_of_nonneg h0
  refine ⟨fun v hv => by rw [key v hv]; exact h.pos v hv, fun u v hu he => ?_, fun u v hu hv e => ?_⟩
  · have h1 := adjE_lt hok he
    rw [key u h1.1, key v h1.2]; exact h.clo u v hu he
  · change ((fn (cp.map Int.toNat) u : Nat) : Int) = ((fn (cp.map Int.toNat) v : Nat) : Int) at e
    rw [key u hu, key v hv] at e; exact h.cls u v hu hv e
theorem OrP.at {qs : List Rec} (h : OrP nx cn cnt nx.length (nums qs)) {c j : Nat} (hc : c < qs.length) (hj : j < qs[c].xs.length) : ∃ x : Nat, qs[c].xs[j] = (x : Int) ∧ x < nx.length ∧ fn cn x = c := by
  have hl := h.l
  have hq : (nums qs).getD c [] = qs[c].xs := by simp [hc]
  have := (h.h c qs[c].xs[j] (by rw [← hl]; simpa using hc)).1 (by rw [hq]; exact List.getElem_mem hj)
  exact this
theorem OrP.all {qs : List Rec} (h : OrP nx cn cnt nx.length (nums qs)) {c : Nat} (hc : c < qs.length) : ∀ v : Nat, v < nx.length → fn cn v = c → (v : Int) ∈ qs[c].xs := fun v hv e => by
  have hl := h.l
  have hq : (nums qs).getD c [] = qs[c].xs := by simp [hc]
  rw [← hq]
  exact (h.h c v (by rw [← hl]; simpa using hc)).2 ⟨v, rfl, hv, e⟩
theorem OrP.ql {qs : List Rec} {k : Nat} (h : OrP nx cn cnt k (nums qs)) : qs.length = cnt := by simpa using h.l
theorem OrP.rl {qs : List Rec} {k : Nat} (h : OrP nx cn cnt k (nums qs)) {c : Nat} (hc : c < qs.length) : qs[c].xs.length ≤ k := by
  have := h.n c
  rwa [show (nums qs).getD c [] = qs[c].xs by simp [hc]] at this
theorem OrP.push {qs : List Rec} {k : Nat} (h : OrP nx cn cnt k (nums qs)) (hk : k < cn.length) (hc : cn[k] < cnt) (b : Option Addr) (c : Nat) : OrP nx cn cnt (k + 1) (nums (qs.set cn[k] ⟨b, c, (qs[cn[k]]'(by rw [h.ql]; exact hc)).xs ++ [(k : Int)]⟩)) := by
  have hf : fn cn k = cn[k] := fn_get hk
  have := h.step (by rw [hf]; exact hc)
  rw [hf] at this
  rw [nums_set]
  have hq : (nums qs).getD cn[k] [] = (qs[cn[k]]'(by rw [h.ql]; exact hc)).xs := by simp [h.ql, hc]
  rwa [hq] at this
theorem gb {l : List Bool} {v : Nat} (h : v < l.length) : l.getD v false = l[v] := by simp [h]
theorem lt64 {x m : Nat} (h : x < 2 ^ m) (hm : m ≤ 8) : x < 256 := Nat.lt_of_lt_of_le h (Nat.pow_le_pow_right (n := 2) (by omega) hm)
end
end Go.Lx


namespace Go.Proofs.Ytnamoapbienooaa
open Go.Lx Go.RowKit
set_option linter.unusedVariables false
set_option linter.unusedSimpArgs false
theorem filter_any {α : Type} {l : List α} {p : α → Bool} (h : l.any p = false) : l.filter (fun x => !p x) = l := by
  rw [List.filter_eq_self]; intro x hx
  rw [List.any_eq_false] at h
  have := h x hx
  simpa using this
set_option maxHeartbeats 1000000 in
set_option maxRecDepth 20000 in
theorem deleteI (base : World) (b : Option Addr) (c : Nat) (xs : List Int) (hb : xs.length ≤ 1000000000) (OO : List Lx.Item) (fv : Value) (p : Int → Bool) (hy : ∀ x ∈ xs, CallV Try.prog base fv [.int .i64 x] OO (fun v O' => v = .bool (p x) ∧ O' = OO)) :
    CallT Try.prog base 69 [.slice b xs.length c, fv] ([rowI b c 3 1 (ints xs)] ++ OO) (fun v O' => v = .slice b (xs.filter fun x => !p x).length c ∧ O' = [rowI b c 3 1 (ints (xs.filter fun x => !p x))] ++ OO) := by
  refine CallT.enter Try.func69 rfl Try.ntmps69 rfl ?_
  refine T.seq (T.region ?_)
  refine TO.quiet (q_assign rfl) ?_
  refine TO.nil (T.seq (T.region ?_))
  refine TO.quiet (q_move rfl) (TO.quiet (q_move rfl) ?_)
  have hk10 := indexFuncI base b c xs ([rowI b c 3 1 (ints xs)] ++ OO) (rowO List.mem_cons_self) (by omega) fv p (fun x hx => ((CallV.atR [rowI b c 3 1 (ints xs)] (hy x (hx))).mono (fun v O' ⟨A', e1, e2, e3⟩ => ⟨e2, by rw [e1, e3]⟩)))
  refine TO.loud rfl (l_call ent101 hk10 rfl ?_)
  clear hk10
  rintro vr O' ⟨i0, rfl, hi0, rfl⟩
  refine TO.quiet (q_assign rfl) ?_
  refine TO.nil (T.seq (T.seq (T.region ?_)))
  refine TO.quiet (q_move rfl) (TO.quiet (q_eql rfl rfl) ?_)
  refine TO.nil ?_
  refine T.condP rfl (fun hc => ?_) (fun hc => ?_)
  · have hany : xs.any p = false := by
      rcases hi0 with ⟨_, h⟩ | ⟨k, hk, h, _⟩
      · exact h
      · omega
    refine T.seq (T.region ?_)
    refine TO.quiet (q_move rfl) (TO.quiet (q_assign rfl) ?_)
    refine TO.nil (T.ret ?_)
    refine Res.one (.slice b xs.length c) Try.results69 rfl ?_
    have hfl : (xs.filter fun x => !p x) = xs := filter_any hany
    exact ⟨by rw [hfl], by rw [hfl]⟩
  obtain ⟨k0, hk0, hik, hpk, hpre⟩ : ∃ (k : Nat) (hk : k < xs.length), i0 = (k : Int) ∧ p xs[k] = true ∧ (xs.take k).any p = false := by
    rcases hi0 with ⟨h, _⟩ | h
    · omega
    · exact h
  refine T.skip (T.seq (T.seq (T.region ?_)))
  refine TO.quiet (QT.cast (q_move rfl) (v' := .int .i64 ((k0 : Nat) : Int)) (by show Value.int _ _ = _; rw [hik])) (TO.quiet (q_addN (a := k0) (b := 1) rfl rfl (by omega)) (TO.quiet (q_assign rfl) ?_))
  refine TO.nil (T.block ?_)
  refine T.loop (fun (j : Nat) ρ O => ∃ (ys : List Int) (i : Nat), O = ([rowI b c 3 1 (ints ys)] ++ OO) ∧ j ≤ xs.length ∧ i < j ∧ ys.length = xs.length ∧ ys.take i = (xs.take j).filter (fun x => !p x) ∧ (∀ q, j ≤ q → ys[q]? = xs[q]?) ∧ Heads [(0, (.slice b xs.length c)), (1, fv), (4, (.slice none 0 0)), (5, .int .i64 (i : Int)), (6, .int .i64 (j : Int))] ρ) (fun j => xs.length - j) (k0 + 1) ?_ ?_
  · refine ⟨xs, k0, rfl, by omega, by omega, rfl, ?_, fun q hq => rfl, ⟨rfl, rfl, rfl, by rw [← hik]; rfl, rfl, trivial⟩⟩
    rw [List.take_succ_eq_append_getElem hk0, List.filter_append, filter_any hpre]; simp [hpk]
  rintro j ρ O ⟨ys, i, rfl, hj, hij, hyl, hyt, hyr, hH⟩
  obtain ⟨ρ0, rfl⟩ := hH.elim
  clear hH
  have hgo := trivial
  refine T.have (φ := xs.length ≤ c) (fun w hI => by have := rowP.cap (hI.row (i := 0) rfl); rw [List.length_map, hyl] at this; exact this) (fun hcap => ?_)
  refine T.seq (T.seq (T.region ?_))
  refine TO.quiet (q_move rfl) (TO.quiet (q_move rfl) (TO.quiet (q_len Try.underlying22 rfl) (TO.quiet (q_lss rfl rfl) ?_)))
  refine TO.nil ?_
  refine T.condP rfl (fun hc => ?_) (fun hc => ?_)
  · have hlt19 : j < xs.length := by omega
    have hyg : ys[j]'(by omega) = xs[j] := by have h9 := hyr j (Nat.le_refl _); rw [List.getElem?_eq_getElem (by omega), List.getElem?_eq_getElem hlt19] at h9; exact Option.some.inj h9
    refine T.skip (T.seq (T.block (T.seq (T.region ?_))))
    refine TO.quiet (q_move rfl) (TO.quiet (q_move rfl) (TO.quiet (q_ix (i := j) Try.underlying22 inf3 rfl rfl (rowO (List.mem_of_getElem? (i := 0) rfl))) (TO.quiet (q_ld Try.underlying3 rfl rfl (rowO (List.mem_of_getElem? (i := 0) rfl)) (show (ints ys)[j]? = _ by rw [ints_get (by omega), hyg])) ?_)))
    refine TO.quiet (q_assign rfl) ?_
    refine TO.nil (T.seq (T.region ?_))
    refine TO.quiet (q_move rfl) (TO.quiet (q_move rfl) ?_)
    have hk28 := (show CallV Try.prog base fv [.int .i64 xs[j]] ([rowI b c 3 1 (ints ys)] ++ OO) (fun v O' => v = .bool (p xs[j]) ∧ O' = [rowI b c 3 1 (ints ys)] ++ OO) from (CallV.atR [rowI b c 3 1 (ints ys)] (hy xs[j] (List.getElem_mem hlt19))).mono (fun v O' ⟨A', e1, e2, e3⟩ => ⟨e2, by rw [e1, e3]⟩))
    refine TO.loud rfl (l_callG hk28 rfl rfl ?_)
    clear hk28
    rintro vr O' ⟨rfl, rfl⟩
    refine TO.quiet (q_not rfl) ?_
    refine TO.nil ?_
    refine T.cond rfl (fun hc => ?_) (fun hc => ?_)
    · refine T.seq ?_
      refine T.region ?_
      refine TO.quiet (q_move rfl) (TO.quiet (q_move rfl) (TO.quiet (q_move rfl) (TO.quiet (q_ix (i := i) Try.underlying22 inf3 rfl rfl (rowO (List.mem_of_getElem? (i := 0) rfl))) ?_)))
      refine TO.loud rfl (l_st (j := i) (v := .int .i64 xs[j]) (vs := [(.int .i64 xs[j])]) (cs := ints ys) 0 inf3 rfl rfl rfl rfl rfl (by simp) rfl (by first | (simp; omega) | (simp_all; omega)) ?_)
      refine TO.sub (O' := ([rowI b c 3 1 (ints (ys.set i xs[j]))] ++ OO)) (by rw [show putL (ints ys) i [(.int .i64 xs[j])] = ints (ys.set i xs[j]) from (by simp [putL])]; exact Sub.of (List.Sublist.refl _)) ?_
      refine TO.nil (T.region ?_)
      refine TO.quiet (q_move rfl) (TO.quiet (q_addN (a := i) (b := 1) rfl rfl (by omega)) (TO.quiet (q_assign rfl) ?_))
      refine TO.nil (T.region ?_)
      refine TO.quiet (q_move rfl) (TO.quiet (q_addN (a := j) (b := 1) rfl rfl (by omega)) (TO.quiet (q_assign rfl) ?_))
      refine TO.nil ?_
      refine ⟨j + 1, by omega, ys.set i xs[j], i + 1, rfl, by omega, by omega, by simp [hyl], ?_, fun q hq => by rw [List.getElem?_set_ne (by omega)]; exact hyr q (by omega), ⟨rfl, rfl, rfl, rfl, rfl, trivial⟩⟩
      rw [List.take_succ_eq_append_getElem hlt19, List.filter_append, ← hyt, List.take_succ_eq_append_getElem (by simp; omega), List.getElem_set_self, List.take_set_of_le (Nat.le_refl _)]
      have hpj : p xs[j] = false := by simpa using hc
      simp [hpj]
    refine T.skip (T.region ?_)
    refine TO.quiet (q_move rfl) (TO.quiet (q_addN (a := j) (b := 1) rfl rfl (by omega)) (TO.quiet (q_assign rfl) ?_))
    refine TO.nil ?_
    refine ⟨j + 1, by omega, ys, i, rfl, by omega, by omega, hyl, ?_, fun q hq => hyr q (by omega), ⟨rfl, rfl, rfl, rfl, rfl, trivial⟩⟩
    rw [List.take_succ_eq_append_getElem hlt19, List.filter_append, ← hyt]
    have hpj : p xs[j] = true := by simpa using hc
    simp [hpj]
  have hge19 : ¬ j < xs.length := by omega
  refine T.exit ?_
  refine T.seq ?_
  have hje : j = xs.length := by omega
  rw [hje, List.take_length] at hyt
  have hil : (xs.filter fun x => !p x).length = i := by rw [← hyt, List.length_take]; omega
  refine T.region ?_
  refine TO.quiet (q_move rfl) (TO.quiet (q_move rfl) (TO.quiet (q_sliceFrom (lo := i) Try.underlying22 inf3 rfl rfl (by omega) (by omega)) ?_))
  refine TO.loud rfl (l_clear (cs := ints ys) (lo := i) 0 Try.underlying22 inf3 rfl rfl (by rw [List.length_map, hyl]; rfl) rfl (by rw [List.length_map]; omega) ?_)
  refine TO.nil (T.seq (T.region ?_))
  refine TO.quiet (q_move rfl) (TO.quiet (q_move rfl) (TO.quiet (q_sliceTo (hi := i) Try.underlying22 inf3 rfl rfl (by omega)) (TO.quiet (q_assign rfl) ?_)))
  refine TO.nil (T.ret ?_)
  refine Res.one (.slice b i c) Try.results69 rfl ?_
  exact ⟨by rw [hil], by rw [← hyt, show ints (ys.take i) = (ints ys).take i from List.map_take]; rfl⟩
end Go.Proofs.Ytnamoapbienooaa


namespace Go.Proofs.Ytnamoapbienooaa
open Go.Lx Go.RowKit
set_option linter.unusedVariables false
set_option linter.unusedSimpArgs false
set_option maxHeartbeats 1000000 in
set_option maxRecDepth 20000 in
theorem statesF (w : World) (b : Option Addr) (c : Nat) (xs : List Int) (n : Int) (h : Sl w b (ints xs)) (hb : xs.length ≤ 1000000) :
    PureT Try.prog 64 [.slice b xs.length c, .int .i64 n] w fun v N => v = .bool (rises n (-1) xs) ∧ N = [] := by
  refine CallT.enter Try.func64 rfl Try.ntmps64 rfl ?_
  refine T.seq (T.region ?_)
  refine TO.quiet (q_assign rfl) ?_
  refine TO.nil (T.seq (T.region ?_))
  refine TO.quiet (q_assign rfl) ?_
  refine TO.nil (T.seq (T.seq (T.region ?_)))
  refine TO.quiet (q_move rfl) (TO.quiet (q_len Try.underlying22 rfl) (TO.quiet (q_move rfl) ?_))
  refine TO.nil (T.block ?_)
  refine T.loop (fun (k : Nat) ρ O => ∃ (a : Int), O = [] ∧ k ≤ xs.length ∧ rises n a (xs.drop k) = rises n (-1) xs ∧ Heads [(0, (.slice b xs.length c)), (1, .int .i64 n), (5, .int .i64 a), (8, (.slice b xs.length c)), (9, .int .i64 (xs.length : Int)), (10, .int .i64 (k : Int))] ρ) (fun k => xs.length - k) 0 ?_ ?_
  · exact ⟨-1, rfl, Nat.zero_le _, rfl, ⟨rfl, rfl, rfl, rfl, rfl, rfl, trivial⟩⟩
  rintro k ρ O ⟨a, rfl, hk, hr, hH⟩
  obtain ⟨ρ0, rfl⟩ := hH.elim
  clear hH
  refine T.seq (T.region ?_)
  refine TO.quiet (q_lss rfl rfl) ?_
  refine TO.nil (T.seq ?_)
  refine T.condP rfl (fun hc => ?_) (fun hc => ?_)
  · have hlt11 : k < xs.length := by omega
    refine T.skip (T.seq (T.block (T.seq (T.region ?_))))
    refine TO.quiet (q_ix (i := k) Try.underlying22 inf3 rfl rfl (Sl.o h)) (TO.quiet (q_ld Try.underlying3 rfl rfl (Sl.o h) ints_get) (TO.quiet (q_assign rfl) ?_))
    refine TO.nil (T.seq (T.seq (T.region ?_)))
    refine TO.quiet (q_move rfl) (TO.quiet (q_move rfl) (TO.quiet (q_leq rfl rfl) ?_))
    by_cases hs17 : xs[k] ≤ a
    · refine TO.quiet (QT.toB (q_move rfl) (decide_eq_true hs17)) ?_
      refine TO.passed rfl rfl ?_
      refine TO.passed rfl rfl ?_
      refine TO.passed rfl rfl ?_
      refine TO.quiet (q_pick1 rfl rfl) ?_
      refine TO.nil ?_
      refine T.cond1 rfl ?_
      refine T.seq (T.region ?_)
      refine TO.quiet (q_assign rfl) ?_
      refine TO.nil (T.ret ?_)
      refine Res.one (.bool false) Try.results64 rfl ?_
      exact ⟨congrArg Value.bool (by rw [← hr, rises_no hlt11 (by omega)]), rfl⟩
    refine TO.quiet (QT.toB (q_move rfl) (decide_eq_false hs17)) ?_
    refine TO.guarded rfl rfl rfl (LT.of_quiet rfl rfl (q_move rfl) ?_)
    refine TO.guarded rfl rfl rfl (LT.of_quiet rfl rfl (q_move rfl) ?_)
    refine TO.guarded rfl rfl rfl (LT.of_quiet rfl rfl (q_geq rfl rfl) ?_)
    refine TO.quiet (q_pick0 rfl rfl) ?_
    refine TO.nil ?_
    refine T.condP rfl (fun hc => ?_) (fun hc => ?_)
    · refine T.seq ?_
      refine T.region ?_
      refine TO.quiet (q_assign rfl) ?_
      refine TO.nil (T.ret ?_)
      refine Res.one (.bool false) Try.results64 rfl ?_
      exact ⟨congrArg Value.bool (by rw [← hr, rises_no hlt11 (by omega)]), rfl⟩
    refine T.skip (T.region ?_)
    refine TO.quiet (q_move rfl) (TO.quiet (q_assign rfl) ?_)
    refine TO.nil (T.region ?_)
    refine TO.quiet (q_addN (a := k) (b := 1) rfl rfl (by omega)) (TO.quiet (q_move rfl) ?_)
    refine TO.nil ?_
    exact ⟨k + 1, by omega, xs[k], rfl, by omega, by rw [← hr, rises_yes hlt11 (by omega) (by omega)], ⟨rfl, rfl, rfl, rfl, rfl, rfl, trivial⟩⟩
  have hge11 : ¬ k < xs.length := by omega
  refine T.exit ?_
  refine T.seq (T.region ?_)
  refine TO.quiet (q_assign rfl) ?_
  refine TO.nil (T.ret ?_)
  refine Res.one (.bool true) Try.results64 rfl ?_
  exact ⟨congrArg Value.bool (by rw [← hr, rises_end (by omega)]), rfl⟩
end Go.Proofs.Ytnamoapbienooaa


/- Contracts of functions of the program (CoreL, CoreM, CoreN, CoreP, CoreQ, CoreR, CoreS, CoreU, CoreV, DK, CoreW, CoreX, CoreY, Tz, Facts, Plain, Part, Bfs, Tell, Law, Law2, Mat, Ord, Gre, All, DR, Myh, Rnd, Word, Wrd2, Bol, Dct, Can, Bol2, Bol3, Bol4, Bol5, Bol6, Bol7, Bol8, BolA, BolC, BolD, BolE): what each call answers and that it leaves memory as it was. Conditions: those each theorem names. -/
import Derived.Test.YtohkmggbfcnapaaGreatDoorCoreK
import Derived.Shelf.Spec.TrailingZeros
import Derived.Test.YtohkmggbfcnapaaGreatDoorProg
import Derived.Test.YtohkmggbfcnapaaGreatDoorRows
set_option linter.unusedSectionVars false
set_option linter.unusedSimpArgs false
set_option linter.unusedVariables false
set_option linter.unnecessarySimpa false
set_option maxHeartbeats 8000000
set_option maxRecDepth 20000
namespace Go.Lx
open Go.RowKit
section
variable {P : Program} {base : World} {ρ : Env} {O : List Item} {dst : Option Nat} {t : TypeId} {p : String} {af : Array Edge} {g : Option (Nat × Bool)}
theorem ofInt_nat {n a : Nat} (h : a < 2 ^ n) : (BitVec.ofInt n (a : Int)).toNat = a := by
 rw [BitVec.ofInt_natCast, BitVec.toNat_ofNat, Nat.mod_eq_of_lt h]
theorem wrapU64 {x : Nat} (h : x < 2 ^ 64) : IntKind.u64.wrap (x : Int) = (x : Int) := by
 simp only [IntKind.wrap, IntKind.signed, IntKind.bits]
 simp
 omega
inductive UK : IntKind → Prop
 | u8 : UK .u8
 | u64 : UK .u64
theorem UK.wrap {k : IntKind} (hk : UK k) {x : Nat} (h : x < 2 ^ k.bits) : k.wrap (x : Int) = (x : Int) := by
 cases hk
 ·exact wrap8 (by simpa [IntKind.bits] using h)
 ·exact wrapU64 (by simpa [IntKind.bits] using h)
theorem q_or {x y : Operand} {T U : TypeId} {k : IntKind} {a b : Nat} (hk : UK k) (hx : ev ρ x = .int k (a : Int)) (hy : ev ρ y = .int k (b : Int)) (ha : a < 2 ^ k.bits) (hb : b < 2 ^ k.bits) : QT P base ⟨dst, .binOp .or T x y U, t, p, af, g⟩ ρ O (.int k ((a ||| b : Nat) : Int)) := fun w _ => by
 have := hk.wrap (Nat.or_lt_two_pow ha hb)
 simp [execOp, hx, hy, eqGuard, binOp, Op.intBits, Nat.mod_eq_of_lt ha, Nat.mod_eq_of_lt hb, this]
theorem q_and {x y : Operand} {T U : TypeId} {k : IntKind} {a b : Nat} (hk : UK k) (hx : ev ρ x = .int k (a : Int)) (hy : ev ρ y = .int k (b : Int)) (ha : a < 2 ^ k.bits) (hb : b < 2 ^ k.bits) : QT P base ⟨dst, .binOp .and T x y U, t, p, af, g⟩ ρ O (.int k ((a &&& b : Nat) : Int)) := fun w _ => by
 have := hk.wrap (Nat.lt_of_le_of_lt (Nat.and_le_left (n := a) (m := b)) ha)
 simp [execOp, hx, hy, eqGuard, binOp, Op.intBits, Nat.mod_eq_of_lt ha, Nat.mod_eq_of_lt hb, this]
theorem q_shr {x y : Operand} {T U : TypeId} {k k' : IntKind} {a b : Nat} (hk : UK k) (hx : ev ρ x = .int k (a : Int)) (hy : ev ρ y = .int k' (b : Int)) (ha : a < 2 ^ k.bits) (hb : b ≤ k.bits) : QT P base ⟨dst, .binOp .shr T x y U, t, p, af, g⟩ ρ O (.int k ((a >>> b : Nat) : Int)) := fun w _ => by
 have h0 : ¬ (b : Int) < 0 := by omega
 have h1 : min (b : Int).toNat k.bits = b := by rw [Int.toNat_natCast]; exact Nat.min_eq_left hb
 have h2 : (a : Int).fdiv (2 ^ b) = ((a >>> b : Nat) : Int) := by
  rw [Nat.shiftRight_eq_div_pow, Int.fdiv_eq_ediv_of_nonneg _ (by exact Int.le_of_lt (Int.pow_pos (by decide)))]
  rw [Int.natCast_ediv, Int.natCast_pow]; rfl
 simp only [execOp, hx, hy, eqGuard, binOp, Op.shift, h0, if_false, h1, h2]
 simp
theorem q_shlU {x y : Operand} {T U : TypeId} {k k' : IntKind} {a b : Nat} (hk : UK k) (hx : ev ρ x = .int k (a : Int)) (hy : ev ρ y = .int k' (b : Int)) (hb : b ≤ k.bits) (h : a * 2 ^ b < 2 ^ k.bits) : QT P base ⟨dst, .binOp .shl T x y U, t, p, af, g⟩ ρ O (.int k ((a * 2 ^ b : Nat) : Int)) := fun w _ => by
 have h0 : ¬ (b : Int) < 0 := by omega
 have h1 : min (b : Int).toNat k.bits = b := by rw [Int.toNat_natCast]; exact Nat.min_eq_left hb
 have h2 : k.wrap ((a : Int) * 2 ^ b) = ((a * 2 ^ b : Nat) : Int) := by
  have := hk.wrap h
  rw [← this]; congr 1
 simp only [execOp, hx, hy, eqGuard, binOp, Op.shift, h0, if_false, h1, h2]
 simp
theorem q_subU {x y : Operand} {T U : TypeId} {k : IntKind} {a b : Nat} (hk : UK k) (hx : ev ρ x = .int k (a : Int)) (hy : ev ρ y = .int k (b : Int)) (ha : a < 2 ^ k.bits) (hb : b ≤ a) : QT P base ⟨dst, .binOp .sub T x y U, t, p, af, g⟩ ρ O (.int k ((a - b : Nat) : Int)) := by
 have h := q_sub (P := P) (base := base) (O := O) (dst := dst) (t := t) (p := p) (af := af) (g := g) (T := T) (U := U) hx hy
 rw [← Int.natCast_sub hb, hk.wrap (by omega)] at h
 exact h
theorem q_remN {x y : Operand} {T U : TypeId} {k : IntKind} {a b : Nat} (hx : ev ρ x = .int k (a : Int)) (hy : ev ρ y = .int k (b : Int)) (h0 : 0 < b) : QT P base ⟨dst, .binOp .rem T x y U, t, p, af, g⟩ ρ O (.int k ((a % b : Nat) : Int)) := by
 have h := q_rem (P := P) (base := base) (O := O) (dst := dst) (t := t) (p := p) (af := af) (g := g) (T := T) (U := U) hx hy (by omega)
 rw [Int.tmod_eq_emod_of_nonneg (by omega), ← Int.natCast_emod] at h
 exact h
theorem q_quoN {x y : Operand} {T U : TypeId} {a b : Nat} (hx : ev ρ x = .int .i64 (a : Int)) (hy : ev ρ y = .int .i64 (b : Int)) (h0 : 0 < b) (ha : a < 9223372036854775808) : QT P base ⟨dst, .binOp .quo T x y U, t, p, af, g⟩ ρ O (.int .i64 ((a / b : Nat) : Int)) := fun w _ => by
 have h1 : (b : Int) ≠ 0 := by omega
 have h2 : (a : Int).tdiv (b : Int) = ((a / b : Nat) : Int) := by rw [Int.tdiv_eq_ediv_of_nonneg (by omega), Int.natCast_ediv]
 have h3 : IntKind.i64.wrap ((a / b : Nat) : Int) = ((a / b : Nat) : Int) := wrap64_id (by have h4 := Nat.div_le_self a b; generalize a / b = q at h4 ⊢; omega)
 rw [Int.natCast_ediv] at h2 h3 ⊢
 have h5 : b ≠ 0 := by omega
 simp [execOp, hx, hy, eqGuard, binOp, Op.intDiv, h5, h2, h3]
theorem q_addN {x y : Operand} {T U : TypeId} {a b : Nat} (hx : ev ρ x = .int .i64 (a : Int)) (hy : ev ρ y = .int .i64 (b : Int)) (h : a + b ≤ 9223372036854775807) : QT P base ⟨dst, .binOp .add T x y U, t, p, af, g⟩ ρ O (.int .i64 ((a + b : Nat) : Int)) := by
 have := q_add64 (P := P) (base := base) (O := O) (dst := dst) (t := t) (p := p) (af := af) (g := g) (T := T) (U := U) hx hy (by omega)
 rwa [← Int.natCast_add] at this
theorem q_subN {x y : Operand} {T U : TypeId} {a b : Nat} (hx : ev ρ x = .int .i64 (a : Int)) (hy : ev ρ y = .int .i64 (b : Int)) (h : b ≤ a) (ha : a ≤ 9223372036854775807) : QT P base ⟨dst, .binOp .sub T x y U, t, p, af, g⟩ ρ O (.int .i64 ((a - b : Nat) : Int)) := by
 have := q_sub64 (P := P) (base := base) (O := O) (dst := dst) (t := t) (p := p) (af := af) (g := g) (T := T) (U := U) hx hy (by omega)
 rwa [← Int.natCast_sub h] at this
theorem q_mulN {x y : Operand} {T U : TypeId} {a b : Nat} (hx : ev ρ x = .int .i64 (a : Int)) (hy : ev ρ y = .int .i64 (b : Int)) (h : a * b ≤ 9223372036854775807) : QT P base ⟨dst, .binOp .mul T x y U, t, p, af, g⟩ ρ O (.int .i64 ((a * b : Nat) : Int)) := by
 have := q_mul64 (P := P) (base := base) (O := O) (dst := dst) (t := t) (p := p) (af := af) (g := g) (T := T) (U := U) hx hy (by rw [← Int.natCast_mul]; omega)
 rwa [← Int.natCast_mul] at this
theorem q_maxN {x y : Operand} {ats : Array TypeId} {k k' : IntKind} {a b : Nat} (hx : ev ρ x = .int k (a : Int)) (hy : ev ρ y = .int k' (b : Int)) : QT P base ⟨dst, .call ⟨.builtin .max, #[x, y], ats⟩, t, p, af, g⟩ ρ O (.int k ((max a b : Nat) : Int)) := by
 have h := q_max (P := P) (base := base) (O := O) (dst := dst) (t := t) (p := p) (af := af) (g := g) (ats := ats) hx hy
 have e : (if (b : Int) > (a : Int) then (b : Int) else (a : Int)) = ((max a b : Nat) : Int) := by split <;> omega
 rwa [e] at h
theorem q_minN {x y : Operand} {ats : Array TypeId} {k k' : IntKind} {a b : Nat} (hx : ev ρ x = .int k (a : Int)) (hy : ev ρ y = .int k' (b : Int)) : QT P base ⟨dst, .call ⟨.builtin .min, #[x, y], ats⟩, t, p, af, g⟩ ρ O (.int k ((min a b : Nat) : Int)) := by
 have h := q_min (P := P) (base := base) (O := O) (dst := dst) (t := t) (p := p) (af := af) (g := g) (ats := ats) hx hy
 have e : (if (b : Int) < (a : Int) then (b : Int) else (a : Int)) = ((min a b : Nat) : Int) := by split <;> omega
 rwa [e] at h
def subB (b : Option Addr) (c lo k : Nat) : Option Addr := if c = lo then b else b.map (·.add (lo * k))
theorem subB_zero (b : Option Addr) (c k : Nat) : subB b c 0 k = b := by
 unfold subB
 split
 ·rfl
 ·rw [Nat.zero_mul]; cases b with
  | none => rfl
  | some a => simp [Addr.add]
theorem Sl.sub {w : World} {b : Option Addr} {cs : List Value} (h : Sl w b cs) (c lo k m : Nat) (hc : c = lo → (cs.drop (lo * k)).take m = []) : Sl w (subB b c lo k) ((cs.drop (lo * k)).take m) := fun i hi => by
 have hlt : lo * k + i < cs.length := by rw [List.length_take, List.length_drop] at hi; omega
 obtain ⟨⟨bk, o, sp⟩, h1, h2, h3⟩ := h _ hlt
 simp only at h2; subst h2
 have hne : c ≠ lo := fun e => by rw [hc e] at hi; simp at hi
 refine ⟨⟨bk, o + lo * k, none⟩, ?_, rfl, ?_⟩
 ·unfold subB; rw [if_neg hne, h1]; simp [add_off]
 ·simp only [List.getElem_take, List.getElem_drop]
  rw [show o + lo * k + i = o + (lo * k + i) by omega]; exact h3
theorem q_slice {x : Operand} {T E : TypeId} {b : Option Addr} {n c k by_ lo hi : Nat} {z : Value} {yl yh : Option Operand} {kl kh : IntKind} (hu : P.underlying T = some (.slice E)) (hi' : Inf P E z k by_) (hx : ev ρ x = .slice b n c)
  (hl : ∀ y, yl = some y → ev ρ y = .int kl (lo : Int)) (hl0 : yl = none → lo = 0) (hh : ∀ y, yh = some y → ev ρ y = .int kh (hi : Int)) (hh0 : yh = none → hi = n) (h1 : lo ≤ hi) (h2 : hi ≤ c) :
  QT P base ⟨dst, .slice T x yl yh none, t, p, af, g⟩ ρ O (.slice (subB b c lo k) (hi - lo) (c - lo)) := fun w _ => by
 have e1 : (lo : Int) ≤ (hi : Int) := by omega
 have e2 : (hi : Int) ≤ (c : Int) := by omega
 have e0 : (0 : Int) ≤ (lo : Int) := by omega
 have e3 : (0 : Int) ≤ (hi : Int) := by omega
 unfold subB
 have ed : c - lo = 0 ↔ c = lo := by omega
 cases yl with
 | none =>
  obtain rfl := hl0 rfl
  cases yh with
  | none =>
   obtain rfl := hh0 rfl
   by_cases hc0 : c = 0
   ·simp [execOp, Instr.sliceAt, Instr.slice, hx, run_underlying' hu, run_sizeOf' hi', Instr.sliceBounds, hc0]
   ·simp [execOp, Instr.sliceAt, Instr.slice, hx, run_underlying' hu, run_sizeOf' hi', Instr.sliceBounds, hc0]
  | some y =>
   have := hh y rfl
   by_cases hc0 : c = 0
   ·simp [execOp, Instr.sliceAt, Instr.slice, hx, this, run_underlying' hu, run_sizeOf' hi', Instr.sliceBounds, Instr.sliceBound, asIntOf, e2, e3, hc0, h2]
    omega
   ·simp [execOp, Instr.sliceAt, Instr.slice, hx, this, run_underlying' hu, run_sizeOf' hi', Instr.sliceBounds, Instr.sliceBound, asIntOf, e2, e3, hc0, h2]
 | some y' =>
  have hl' := hl y' rfl
  cases yh with
  | none =>
   obtain rfl := hh0 rfl
   by_cases hc0 : c = lo
   ·simp [execOp, Instr.sliceAt, Instr.slice, hx, hl', run_underlying' hu, run_sizeOf' hi', Instr.sliceBounds, Instr.sliceBound, asIntOf, e1, e0, hc0, h1]
   ·simp [execOp, Instr.sliceAt, Instr.slice, hx, hl', run_underlying' hu, run_sizeOf' hi', Instr.sliceBounds, Instr.sliceBound, asIntOf, e1, e0, hc0, h1]
  | some y =>
   have := hh y rfl
   by_cases hc0 : c = lo
   ·simp [execOp, Instr.sliceAt, Instr.slice, hx, hl', this, run_underlying' hu, run_sizeOf' hi', Instr.sliceBounds, Instr.sliceBound, asIntOf, e1, e0, e2, e3, hc0, h1, h2]
    intro; omega
   ·simp [execOp, Instr.sliceAt, Instr.slice, hx, hl', this, run_underlying' hu, run_sizeOf' hi', Instr.sliceBounds, Instr.sliceBound, asIntOf, e1, e0, e2, e3, hc0, h1, h2]
theorem q_sliceTo {x y : Operand} {T E : TypeId} {b : Option Addr} {n c k by_ hi : Nat} {z : Value} {kh : IntKind} (hu : P.underlying T = some (.slice E)) (hi' : Inf P E z k by_) (hx : ev ρ x = .slice b n c) (hh : ev ρ y = .int kh (hi : Int)) (h2 : hi ≤ c) :
  QT P base ⟨dst, .slice T x none (some y) none, t, p, af, g⟩ ρ O (.slice b hi c) := by
 have := q_slice (P := P) (base := base) (O := O) (dst := dst) (t := t) (p := p) (af := af) (g := g) (lo := 0) (kl := .i64) hu hi' hx (yl := none) (yh := some y) (fun _ h => by cases h) (fun _ => rfl) (fun _ h => by cases h; exact hh) (fun h => by cases h) (Nat.zero_le _) h2
 rwa [subB_zero, Nat.sub_zero, Nat.sub_zero] at this
end
section
variable {P : Program} {r : Option Nat} {base : World} {n : Nat} {ρ : Env} {O : List Item} {K : Env → List Item → Prop} {d : Nat} {t : TypeId} {p : String} {af : Array Edge} {g : Option (Nat × Bool)}
theorem rowP.head {b : Option Addr} {c k : Nat} {T : TypeId} {cs : List Value} {w : World} (h : rowP b c T k cs w) (m : Nat) : rowP b c T k (cs.take m) w := by
 cases b with
 | none => obtain ⟨rfl, rfl⟩ := h; exact ⟨by simp, rfl⟩
 | some a =>
  obtain ⟨h1, full, h2, h3, h4, h5⟩ := h
  refine ⟨h1, full, h2, by rw [List.length_take]; omega, h4, fun i hi => ?_⟩
  have hi' : i < cs.length := by rw [List.length_take] at hi; omega
  rw [List.getElem_take]; exact h5 i hi'
theorem Inv.head {w : World} {i : Nat} {b : Option Addr} {c k : Nat} {T : TypeId} {cs : List Value} (hI : Inv base O w) (hO : O[i]? = some (rowI b c T k cs)) (m : Nat) : Inv base (O.set i (rowI b c T k (cs.take m))) w :=
 hI.weaken hO (by simp [rowI]) (fun h => h.head m)
end
theorem T.loopS {P : Program} {r : Option Nat} {base : World} {n : Nat} {Q : Post} {ρ : Env} {O : List Item} {c : Code} {α : Type} (I : α → Env → List Item → Prop) (μ : α → Nat) (s : α) (h0 : I s ρ O)
  (h : ∀ s ρ O, I s ρ O → T P r base n c (thn (fun ρ' O' => ∃ s', μ s' < μ s ∧ ∃ O2, Sub O2 O' ∧ I s' ρ' O2) Q) ρ O) : T P r base n (.loop c) Q ρ O :=
 T.loop (fun s ρ O => ∃ O2, Sub O2 O ∧ I s ρ O2) μ s ⟨O, Sub.of (List.Sublist.refl _), h0⟩ (fun s ρ O ⟨O2, hs, hi⟩ => T.sub hs (h s ρ O2 hi))
theorem run_loadBox1 {P : Program} {T E : TypeId} {d : TypeDesc} {b : Nat} {v : Value} {cs : List Value} {fr : Nat × Nat} {w : World} (hu : P.underlying T = some d) (ha : aggB d = false) (hw : w.heap[b]? = some (.cells (v :: cs).toArray E fr)) :
  (loadVar T ⟨b, 0, none⟩).run P w = .ok v w := by
 have hc : w.cell? ⟨b, 0, none⟩ = some v := by unfold World.cell?; simp [hw]
 simp [loadVar, run_isAgg' hu, ha, hc]
theorem Res.cell2s {P : Program} {base : World} {ρ : Env} {O : List Item} {fn : Func} {R : Value → List Item → Prop} {a i c j : Nat} {T U E E' : TypeId} {d d' : TypeDesc} {b b' : Nat} {v u : Value} {cs cs' : List Value} {fr fr' : Nat × Nat} (hr : fn.results = #[.cell a T, .cell c U]) (hu : P.underlying T = some d) (ha : aggB d = false) (hu' : P.underlying U = some d') (ha' : aggB d' = false)
  (hp : ρ a = .pointer (some ⟨b, 0, none⟩)) (hp' : ρ c = .pointer (some ⟨b', 0, none⟩)) (hO : O[i]? = some (objI b (.cells (v :: cs).toArray E fr))) (hO' : O[j]? = some (objI b' (.cells (u :: cs').toArray E' fr')))
  (h : R (.tuple #[v, u]) O) : Res P base fn ρ O R :=
 ⟨⟨_, O, Sub.of (List.Sublist.refl _), h, fun w tmps hI ht => by
  have h1 := run_loadBox1 (P := P) hu ha (hI.objAt hO)
  have h2 := run_loadBox1 (P := P) hu' ha' (hI.objAt hO')
  have ht' := ht a
  have hc := ht c
  simp only [Array.getD_eq_getD_getElem?] at ht' hc
  simp [results, hr, ht', hc, hp, hp', asAddr, h1, h2]⟩⟩
structure EdgeT (P : Program) (kt : TypeId) (f1 f2 f3 f4 : Field) : Prop where
 under : P.underlying kt = some (.struct #[f1, f2, f3, f4])
 u1 : P.underlying f1.type = some (.int .i64)
 u2 : P.underlying f2.type = some (.int .i64)
 u3 : P.underlying f3.type = some (.int .u8)
 u4 : P.underlying f4.type = some (.int .u8)
 o1 : f1.offset = 0
 o2 : f2.offset = 1
 o3 : f3.offset = 2
 o4 : f4.offset = 3
 n1 : f1.name ≠ "_"
 n2 : f2.name ≠ "_"
 n3 : f3.name ≠ "_"
 n4 : f4.name ≠ "_"
 held : P.stoodInHeld kt = false
 guard : P.eqGuardType P.depth kt = false
theorem run_equal_intK {P : Program} {T : TypeId} {k k' : IntKind} (h : P.underlying T = some (.int k)) (d : Nat) (a b : Int) (w : World) : (Op.equalIn (d + 1) T (.int k' a) (.int k' b)).run P w = .ok (a == b) w := by
 rw [Op.equalIn]
 simp [run_underlying' h]
theorem EdgeT.equal {P : Program} {kt : TypeId} {f1 f2 f3 f4 : Field} (h : EdgeT P kt f1 f2 f3 f4) (a b c e a' b' c' e' : Int) (w : World) :
  (Op.equal kt (.agg #[.int .i64 a, .int .i64 b, .int .u8 c, .int .u8 e]) (.agg #[.int .i64 a', .int .i64 b', .int .u8 c', .int .u8 e'])).run P w = .ok (decide (a = a' ∧ b = b' ∧ c = c' ∧ e = e')) w := by
 show (Op.equalIn (9998 + 1 + 1) kt _ _).run P w = _
 rw [Op.equalIn]
 have p1 : ∀ (a b c e : Int), (part f1.type #[.int .i64 a, .int .i64 b, .int .u8 c, .int .u8 e] f1.offset).run P w = .ok (.int .i64 a) w := fun a b c e => by simp [part, run_isAgg' h.u1, aggB, h.o1]
 have p2 : ∀ (a b c e : Int), (part f2.type #[.int .i64 a, .int .i64 b, .int .u8 c, .int .u8 e] f2.offset).run P w = .ok (.int .i64 b) w := fun a b c e => by simp [part, run_isAgg' h.u2, aggB, h.o2]
 have p3 : ∀ (a b c e : Int), (part f3.type #[.int .i64 a, .int .i64 b, .int .u8 c, .int .u8 e] f3.offset).run P w = .ok (.int .u8 c) w := fun a b c e => by simp [part, run_isAgg' h.u3, aggB, h.o3]
 have p4 : ∀ (a b c e : Int), (part f4.type #[.int .i64 a, .int .i64 b, .int .u8 c, .int .u8 e] f4.offset).run P w = .ok (.int .u8 e) w := fun a b c e => by simp [part, run_isAgg' h.u4, aggB, h.o4]
 simp [run_underlying' h.under, h.held, h.n1, h.n2, h.n3, h.n4, p1, p2, p3, p4, run_equal_intK h.u1, run_equal_intK h.u2, run_equal_intK h.u3, run_equal_intK h.u4]
 by_cases e1 : a = a'
 ·by_cases e2 : b = b'
  ·by_cases e3 : c = c'
   ·by_cases e4 : e = e'
    ·simp [e1, e2, e3, e4]
    ·simp [e1, e2, e3, e4]
   ·simp [e1, e2, e3]
  ·simp [e1, e2]
 ·simp [e1]
section
variable {P : Program} {base : World} {ρ : Env} {O : List Item} {dst : Option Nat} {t : TypeId} {p : String} {af : Array Edge} {g : Option (Nat × Bool)}
theorem EdgeT.pre {kt : TypeId} {f1 f2 f3 f4 : Field} (h : EdgeT P kt f1 f2 f3 f4) (op : BinOp) (x y : Operand) (a b : Array Value) (w : World) : (eqGuard op kt x y (.agg a) (.agg b)).run P w = .ok () w := by
 unfold eqGuard
 cases op <;> simp [h.guard]
end
end Go.Lx


namespace Go.Lx
open Go.RowKit
section
variable {P : Program} {r : Option Nat} {base : World} {n : Nat} {ρ : Env} {O : List Item} {K : Env → List Item → Prop} {d : Nat} {t : TypeId} {p : String} {af : Array Edge} {g : Option (Nat × Bool)}
end
theorem NextT.reorder {P : Program} {base : World} {M : List Item} {R : Value → List Item → Prop} {x : Result Next} (h : NextT P base M (fun v O' => ∃ O2, Sub O2 O' ∧ R v O2) x) : NextT P base M R x := by
 cases x with
 | halt e w => exact h
 | ok y w =>
  cases y with
  | enter f args => exact Calls.mono h (fun e w' ⟨v, O', h1, h2, O2, hs, hr⟩ => ⟨v, O2, h1, h2.subp hs.app, hr⟩)
  | round l f tmps assign body => exact RoundIn.mono h (fun e w' ⟨v, O', h1, h2, O2, hs, hr⟩ => ⟨v, O2, h1, h2.subp hs.app, hr⟩)
  | _ => exact h
theorem CallV.reorder {P : Program} {base : World} {fv : Value} {args : List Value} {O : List Item} {R : Value → List Item → Prop} (h : CallV P base fv args O (fun v O' => ∃ O2, Sub O2 O' ∧ R v O2)) : CallV P base fv args O R := fun w M hI => (h w M hI).reorder
theorem sub_swap {A B : List Item} : Sub (A ++ B) (B ++ A) := ⟨_, List.perm_append_comm, List.Sublist.refl _⟩
theorem CallV.atR {P : Program} {base : World} {fv : Value} {args : List Value} {A : List Item} (B : List Item) {R : Value → List Item → Prop} (h : CallV P base fv args A R) : CallV P base fv args (B ++ A) (fun v O' => ∃ A', O' = B ++ A' ∧ R v A') :=
 ((h.under (B := B) sub_swap).mono (fun v O' ⟨A', e, hr⟩ => ⟨B ++ A', by rw [e]; exact sub_swap, A', rfl, hr⟩)).reorder
theorem Inv.right {base : World} {A B : List Item} {w : World} (h : Inv base (A ++ B) w) : Inv base B w := h.sub (List.sublist_append_right _ _)
def WordsR (w : World) (vs : List Value) (ws : List (List Nat)) : Prop :=
 vs.length = ws.length ∧ ∀ (i : Nat) (r : List Nat), ws[i]? = some r → ∃ b c, vs[i]? = some (Value.slice b r.length c) ∧ Sl w b (byts r)
theorem WordsR.get {w : World} {vs : List Value} {ws : List (List Nat)} (h : WordsR w vs ws) {i : Nat} (hi : i < ws.length) : ∃ b c, vs[i]? = some (Value.slice b ws[i].length c) ∧ Sl w b (byts ws[i]) :=
 h.2 i _ (List.getElem?_eq_getElem hi)
theorem WordsR.keep {w w' : World} {vs : List Value} {ws : List (List Nat)} (h : WordsR w vs ws) (hb : ∀ k, k < w.heap.size → w'.heap[k]? = w.heap[k]?) : WordsR w' vs ws :=
 ⟨h.1, fun i r hr => by obtain ⟨b, c, h1, h2⟩ := h.2 i r hr; exact ⟨b, c, h1, h2.keep hb⟩⟩
theorem WordsR.two {w : World} {b1 b2 : Option Addr} {c1 c2 n1 n2 : Nat} {r1 r2 : List Nat} (h1 : Sl w b1 (byts r1)) (h2 : Sl w b2 (byts r2)) (e1 : r1.length = n1) (e2 : r2.length = n2) : WordsR w [.slice b1 n1 c1, .slice b2 n2 c2] [r1, r2] := by
 refine ⟨rfl, fun i r hr => ?_⟩
 match i with
 | 0 => simp at hr; subst hr; exact ⟨b1, c1, by rw [e1]; rfl, h1⟩
 | 1 => simp at hr; subst hr; exact ⟨b2, c2, by rw [e2]; rfl, h2⟩
 | i + 2 => simp at hr
end Go.Lx


namespace Go.Lx
open Go.RowKit
theorem CallV.pick {P : Program} {base : World} {fv : Value} {args : List Value} {x : Value} (is : List Nat) (L R A : List Item) (hA : pickL is L = A) (h : CallV P base fv args A (fun v O' => v = x ∧ O' = A)) : CallV P base fv args (L ++ R) (fun v O' => v = x ∧ O' = L ++ R) := by
 subst hA
 have hp : (pickL is L ++ (restL is L ++ R)).Perm (L ++ R) := by
  rw [← List.append_assoc]; exact (pick_perm is L).append_right R
 exact ((h.under (B := restL is L ++ R) (Sub.of_perm (D := []) (by simpa using hp))).mono (fun v O' ⟨A', e, hv, ha⟩ => ⟨L ++ R, by rw [e, ha]; exact Sub.of_perm (D := []) (by simpa using hp.symm), hv, rfl⟩)).reorder
theorem Src.own {P : Program} {base : World} {O : List Item} {b : Option Addr} {c k m : Nat} {cs : List Value} (h : ∀ w, Inv base O w → Sl w b cs) (hl : cs.length = m * k) : Src P base O k m (.slice b m c) cs :=
 ⟨hl, fun w => by simp [Builtin.lenOf], fun w hI => firstCells_run (h w hI) hl (fun e => by
  cases cs with
  | nil => rfl
  | cons v cs => obtain ⟨a, h1, _⟩ := h w hI 0 (by simp); rw [e] at h1; cases h1)⟩
section
variable {P : Program} {r : Option Nat} {base : World} {n : Nat} {ops : Array Oper} {S S2 : List Item} {tail tail2 : List Nat} {K : Env → List Item → Prop} {ρ : Env} {O : List Item}
theorem RO.loudG {fuel : Nat} {listed : Array Bool} (i : Nat) {o : Oper} {j0 tj : Nat} {want : Bool} (hi : ops[i]? = some o) (hg : o.guard = some (j0, want)) (hj0 : (ops[j0]?).bind (·.dst) = some tj) (hw : ρ tj = .bool want) (hr : Region.ready .any ops listed = [i])
  (h : LT P r base n o ρ O (fun ρ' O' => (i ∈ tail ∨ Sub S O') ∧ (i ∈ tail2 ∨ Sub S2 O') ∧ RO P r base n ops S tail S2 tail2 fuel (listed.setIfInBounds i true) K ρ' O')) : RO P r base n ops S tail S2 tail2 (fuel + 1) listed K ρ O := by
 intro Q a w M D hq hp ha hI hcl hS
 refine ⟨fun h0 => (by rw [hr] at h0; cases h0), fun j hj => ?_⟩
 rw [hr] at hj
 obtain rfl : j = i := by simpa using hj
 have hj' : j ∈ Region.ready .any ops listed := by rw [hr]; simp
 have hlt : j < listed.size := by
  have := (mem_ready.1 hj').1
  rcases Nat.lt_or_ge j listed.size with h' | h'
  ·exact h'
  ·simp [Array.getElem?_eq_none h'] at this
 have hy := yielded_eq (ops := ops) ha hj0
 rw [hw] at hy
 have hwant : Region.wanted o (yielded ops a.tmps) = true := by unfold Region.wanted; rw [hg]; simp [hy, yOf]
 unfold wpOpIn
 simp only [hi]
 rw [if_pos hwant]
 refine h a w _ _ ha hI _ _ fun a' ρ' O' w' h1 h2 h3 => ?_
 have hcase : ∀ (tl : List Nat) (Z : List Item), (j ∈ tl ∨ Sub Z O') → (tl.any fun b => (listed.setIfInBounds j true).getD b false) = true ∨ Inv base Z w' := fun tl Z h3 => by
  rcases h3 with h4 | h4
  ·refine .inl (List.any_eq_true.2 ⟨j, h4, ?_⟩)
   simp [hlt]
  ·exact .inr (h2.left.subp h4)
 have hcl' : classT base S tail S2 tail2 (listed.setIfInBounds j true) w' := ⟨h2.emp, hcase _ _ h3.1, hcase _ _ h3.2.1⟩
 exact ⟨hcl', h3.2.2 Q a' w' M D hq hp h1 h2 (closed_step hcl hj') hcl'⟩
theorem DO.loudG {l : List (Nat × Nat)} {i : Nat} {o : Oper} {j0 tj : Nat} {want : Bool} (hi : ops[i]? = some o) (hg : o.guard = some (j0, want)) (hj0 : (ops[j0]?).bind (·.dst) = some tj) (hw : ρ tj = .bool want)
  (h : LT P r base n o ρ O (fun ρ' O' => Sub S O' ∧ DO P r base n ops S tail [] tail2 l K ρ' O')) : DO P r base n ops S tail [] tail2 ((i, 1) :: l) K ρ O := fun hs hnd hl listed hb => by
 simp only [walkB, Bool.and_eq_true, beq_iff_eq] at hb
 refine RO.loudG i hi hg hj0 hw hb.1 ?_
 intro a w M ds ha hI next Qx hnext
 exact h a w M ds ha hI next Qx fun a' ρ' O' w' h1 h2 h3 => hnext a' ρ' O' w' h1 h2 ⟨.inr h3.1, .inr (Sub.of (List.nil_sublist _)), h3.2 hs hnd (fun q hq => hl q (List.mem_cons_of_mem _ hq)) _ hb.2⟩
theorem DO.lastG {l : List (Nat × Nat)} {i : Nat} {o : Oper} {j0 tj : Nat} {want : Bool} (hi : ops[i]? = some o) (hg : o.guard = some (j0, want)) (hj0 : (ops[j0]?).bind (·.dst) = some tj) (hw : ρ tj = .bool want)
  (h : LT P r base n o ρ O (fun ρ' O' => DO P r base n ops S tail S2 tail2 l K ρ' O')) : DO P r base n ops S tail S2 tail2 ((i, 2) :: l) K ρ O := fun hs hnd hl listed hb => by
 simp only [walkB, Bool.and_eq_true, beq_iff_eq] at hb
 refine RO.loudG i hi hg hj0 hw hb.1 ?_
 intro a w M ds ha hI next Qx hnext
 exact h a w M ds ha hI next Qx fun a' ρ' O' w' h1 h2 h3 => hnext a' ρ' O' w' h1 h2 ⟨.inl ((hl (i, 2) (by simp)).1.1 rfl), .inl ((hl (i, 2) (by simp)).2.1 (.inl rfl)), h3 hs hnd (fun q hq => hl q (List.mem_cons_of_mem _ hq)) _ hb.2⟩
end
end Go.Lx


namespace Go.Lx
open Go.RowKit
section
variable {P : Program} {r : Option Nat} {base : World} {n : Nat} {ops : Array Oper} {S S2 : List Item} {tail tail2 : List Nat} {K : Env → List Item → Prop} {ρ : Env} {O : List Item}
theorem RO.passedL {fuel : Nat} {listed : Array Bool} (i : Nat) {o : Oper} {d j0 tj : Nat} {want : Bool} (hi : ops[i]? = some o) (hg : o.guard = some (j0, want)) (hd : o.dst = some d) (hj0 : (ops[j0]?).bind (·.dst) = some tj) (hw : (yOf (ρ tj) == some want) = false) (hn : Nat.blt d n = true) (hr : Region.ready .any ops listed = [i])
  (h : RO P r base n ops S tail S2 tail2 fuel (listed.setIfInBounds i true) K (upd ρ d undef) O) : RO P r base n ops S tail S2 tail2 (fuel + 1) listed K ρ O := by
 intro Q a w M D hq hp ha hI hcl hS
 refine ⟨fun h0 => (by rw [hr] at h0; cases h0), fun j hj => ?_⟩
 rw [hr] at hj
 obtain rfl : j = i := by simpa using hj
 have hj' : j ∈ Region.ready .any ops listed := by rw [hr]; simp
 have hy := yielded_eq (ops := ops) ha hj0
 have hwant : Region.wanted o (yielded ops a.tmps) = false := by unfold Region.wanted; rw [hg]; simp only [hy]; exact hw
 unfold wpOpIn
 simp only [hi]
 rw [if_neg (by rw [hwant]; decide)]
 have hcl' : classT base S tail S2 tail2 (listed.setIfInBounds j true) w := ⟨hS.emp, hS.one.imp up_any id, hS.two.imp up_any id⟩
 refine ⟨fun _ _ => trivial, hcl', ?_⟩
 rw [hd]
 exact h Q _ w M D hq hp (ha.put hn undef) hI (closed_step hcl hj') hcl'
theorem DO.passedL {l : List (Nat × Nat)} {i mo : Nat} {o : Oper} {d j0 tj : Nat} {want : Bool} (hmo : mo = 1 ∨ mo = 2) (hi : ops[i]? = some o) (hg : o.guard = some (j0, want)) (hd : o.dst = some d) (hj0 : (ops[j0]?).bind (·.dst) = some tj) (hw : (yOf (ρ tj) == some want) = false)
  (h : DO P r base n ops S tail S2 tail2 l K (upd ρ d undef) O) (hn : Nat.blt d n = true := by rfl) : DO P r base n ops S tail S2 tail2 ((i, mo) :: l) K ρ O := fun hs hnd hl listed hb => by
 have hb' : (Region.ready .any ops listed == [i]) = true ∧ walkB ops tail tail2 l (listed.setIfInBounds i true) = true := by
  rcases hmo with rfl | rfl <;> simpa only [walkB, Bool.and_eq_true] using hb
 exact RO.passedL i hi hg hd hj0 hw hn (by simpa using hb'.1) (h hs hnd (fun q hq => hl q (List.mem_cons_of_mem _ hq)) _ hb'.2)
end
theorem Sub.k {A B : List Item} {a : Item} (h : Sub A B) : Sub (a :: A) (a :: B) := by
 obtain ⟨l, h1, h2⟩ := h; exact ⟨a :: l, h1.cons a, .cons_cons a h2⟩
theorem Sub.d {A B : List Item} {a : Item} (h : Sub A B) : Sub A (a :: B) := by
 obtain ⟨l, h1, h2⟩ := h; exact ⟨l, h1, .cons a h2⟩
theorem Sub.z {B : List Item} : Sub [] B := Sub.of (List.nil_sublist _)
theorem Sub.rf {B : List Item} : Sub B B := Sub.of (List.Sublist.refl _)
theorem Sub.swap3 (A B S : List Item) : Sub ((A ++ B) ++ S) ((A ++ S) ++ B) := by
 refine ⟨(A ++ S) ++ B, ?_, List.Sublist.refl _⟩
 rw [List.append_assoc, List.append_assoc]
 exact List.Perm.append_left A List.perm_append_comm
theorem sub_perm {l B : List Item} (h : l.Sublist B) : ∃ D, (l ++ D).Perm B := by
 induction h with
 | slnil => exact ⟨[], List.Perm.refl _⟩
 | cons a _ ih => obtain ⟨D, hD⟩ := ih; exact ⟨a :: D, List.perm_middle.trans (hD.cons a)⟩
 | cons_cons a _ ih => obtain ⟨D, hD⟩ := ih; exact ⟨D, hD.cons a⟩
theorem Sub.perm {A B : List Item} (h : Sub A B) : ∃ D, (A ++ D).Perm B := by
 obtain ⟨l, p, s⟩ := h
 obtain ⟨D, hD⟩ := sub_perm s
 exact ⟨D, (p.append_right D).trans hD⟩
theorem Sub.tr {A B C : List Item} (h1 : Sub A B) (h2 : Sub B C) : Sub A C := by
 obtain ⟨D, p⟩ := h1.perm
 obtain ⟨E, q⟩ := h2.perm
 exact Sub.of_perm (D := D ++ E) (by rw [← List.append_assoc]; exact (p.append_right E).trans q)
end Go.Lx


namespace Go.Lx
open Go.RowKit
theorem Sub.pull {xs : List Item} {x : Item} (P Q : List Item) (h : Sub xs (P ++ Q)) : Sub (x :: xs) (P ++ x :: Q) := by
 obtain ⟨D, p⟩ := h.perm
 refine Sub.of_perm (D := D) ?_
 exact (p.cons x).trans List.perm_middle.symm
example (a b c d e : Item) (R : List Item) : Sub ([c, a, e] ++ R) ([a, b, c, d, e] ++ R) := by exact Sub.pull [a, b] _ (.k (.d (.d (.k .rf))))
end Go.Lx


namespace Go.Lx
open Go.RowKit
theorem Sub.appL {A B : List Item} (N : List Item) (h : Sub A B) : Sub A (N ++ B) := by
 obtain ⟨l, hp, hs⟩ := h
 exact ⟨l, hp, hs.trans (List.sublist_append_right _ _)⟩
end Go.Lx


namespace Go.Lx
open Go.RowKit
theorem Res.cell2a {P : Program} {base : World} {ρ : Env} {O : List Item} {fn : Func} {R : Value → List Item → Prop} {a i c j : Nat} {T U E E' : TypeId} {d d' : TypeDesc} {z u : Value} {s by_ b b' : Nat} {cs cs' : List Value} {fr fr' : Nat × Nat} (hr : fn.results = #[.cell a T, .cell c U]) (hu : P.underlying T = some d) (ha : aggB d = true) (hi : Inf P T z s by_) (hu' : P.underlying U = some d') (ha' : aggB d' = false)
  (hp : ρ a = .pointer (some ⟨b, 0, none⟩)) (hp' : ρ c = .pointer (some ⟨b', 0, none⟩)) (hO : O[i]? = some (objI b (.cells cs.toArray E fr))) (hO' : O[j]? = some (objI b' (.cells (u :: cs').toArray E' fr'))) (hl : cs.length = s)
  (h : R (.tuple #[.agg cs.toArray, u]) O) : Res P base fn ρ O R :=
 ⟨⟨_, O, Sub.of (List.Sublist.refl _), h, fun w tmps hI ht => by
  have h1 := run_loadBox (P := P) hu ha hi hl (hI.objAt hO)
  have h2 := run_loadBox1 (P := P) hu' ha' (hI.objAt hO')
  have ht1 := ht a
  have ht2 := ht c
  simp only [Array.getD_eq_getD_getElem?] at ht1 ht2
  simp [results, hr, ht1, ht2, hp, hp', asAddr, h1, h2]⟩⟩
theorem q_nilCheck {P : Program} {base : World} {ρ : Env} {O : List Item} {dst : Option Nat} {t : TypeId} {p : String} {af : Array Edge} {g : Option (Nat × Bool)} {x : Operand} {a : Addr} (h : ev ρ x = .pointer (some a)) : QT P base ⟨dst, .nilCheck x, t, p, af, g⟩ ρ O (.pointer (some a)) := fun w _ => by simp [execOp, h]
end Go.Lx


namespace Go.Lx
open Go.RowKit
section
variable {P : Program} {base : World} {ρ : Env} {O : List Item} {dst : Option Nat} {t : TypeId} {p : String} {af : Array Edge} {g : Option (Nat × Bool)}
end
def Rnd (P : Program) (r : Option Nat) (base : World) (n : Nat) (c : Code) (Q : Post) : Nat → Env → List Item → Prop
 | 0, _, _ => False
 | m + 1, ρ, O => T P r base n c (thn (Rnd P r base n c Q m) Q) ρ O
theorem T.rounds {P : Program} {r : Option Nat} {base : World} {n : Nat} {c : Code} {Q : Post} {ρ : Env} {O : List Item} (m : Nat) (h : Rnd P r base n c Q m ρ O) : T P r base n (.loop c) Q ρ O :=
 T.loop (Rnd P r base n c Q) (fun m => m) m h fun s ρ O h => by
  cases s with
  | zero => exact h.elim
  | succ s => exact T.mono (show T P r base n c (thn (Rnd P r base n c Q s) Q) ρ O from h) (fun e ρ O h => by cases e <;> first | exact ⟨s, Nat.lt_succ_self s, h⟩ | exact h)
theorem T.round {P : Program} {r : Option Nat} {base : World} {n m : Nat} {c : Code} {Q : Post} {ρ : Env} {O : List Item} (h : T P r base n c (thn (Rnd P r base n c Q m) Q) ρ O) : Rnd P r base n c Q (m + 1) ρ O := h
end Go.Lx


namespace Go.Lx
open Go.RowKit
structure Mk (Wt : Type) where
 i : Nat
 d : Nat
 val : Wt → Value
 its : Wt → List Item
section
variable {P : Program} {r : Option Nat} {base : World} {n : Nat} {ρ : Env} {O S : List Item} {tail : List Nat} {ops : Array Oper} {K : Env → List Item → Prop} {Wt : Type}
theorem Sub.trans {A B C : List Item} (h : Sub A B) (h2 : Sub B C) : Sub A C := by
 obtain ⟨l1, p1, s1⟩ := h
 obtain ⟨l2, p2, s2⟩ := h2
 obtain ⟨l3, p3, s3⟩ := List.exists_perm_sublist s1 p2
 exact ⟨l3, p1.trans p3.symm, s3.trans s2⟩
theorem getD_lt {l : Array Bool} {j : Nat} (h : j < l.size) (a b : Bool) : l.getD j a = l.getD j b := by simp [h]
theorem Heads.append : ∀ {L M : List (Nat × Value)}, Heads L ρ → Heads M ρ → Heads (L ++ M) ρ
 | [], _, _, h => h
 | q :: L, M, h, h2 => ⟨h.1, Heads.append h.2 h2⟩
def left (listed : Array Bool) (mk : List (Mk Wt)) : Nat := (mk.filter fun q => !listed.getD q.i false).length
end
end Go.Lx


namespace Go.Lx
open Go.RowKit
def packI (φ : Prop) (L : List Item) : Item where
 blocks := L.flatMap Item.blocks
 P w := φ ∧ ∀ it ∈ L, it.P w
 loc w w' h := fun hp => ⟨hp.1, fun it hi => it.loc w w' (fun b hb => h b (List.mem_flatMap.2 ⟨it, hi, hb⟩)) (hp.2 it hi)⟩
theorem Inv.pack {base w : World} {φ : Prop} {L M : List Item} (hφ : φ) (h : Inv base (L ++ M) w) : Inv base (packI φ L :: M) w :=
 ⟨h.below, fun it hi => (List.mem_cons.1 hi).elim (fun e => e ▸ ⟨hφ, fun x hx => h.holds x (List.mem_append_left _ hx)⟩) fun hm => h.holds it (List.mem_append_right _ hm),
  fun it hi b hb => (List.mem_cons.1 hi).elim (fun e => by
   subst e
   obtain ⟨x, hx, hbx⟩ := List.mem_flatMap.1 hb
   exact h.fresh x (List.mem_append_left _ hx) b hbx) fun hm => h.fresh it (List.mem_append_right _ hm) b hb,
  by have := h.nodup; rwa [List.flatMap_append] at this⟩
theorem Inv.unpack {base w : World} {φ : Prop} {L M : List Item} (h : Inv base (packI φ L :: M) w) : φ ∧ Inv base (L ++ M) w := by
 have h0 := h.holds (packI φ L) List.mem_cons_self
 refine ⟨h0.1, h.below, fun it hi => (List.mem_append.1 hi).elim (h0.2 it) fun hm => h.holds it (List.mem_cons_of_mem _ hm), fun it hi b hb => (List.mem_append.1 hi).elim (fun hm => h.fresh (packI φ L) List.mem_cons_self b (List.mem_flatMap.2 ⟨it, hm, hb⟩)) fun hm => h.fresh it (List.mem_cons_of_mem _ hm) b hb, ?_⟩
 have := h.nodup
 rwa [List.flatMap_append]
section
variable {P : Program} {r : Option Nat} {base : World} {n : Nat} {c : Code} {Q : Post} {ρ : Env} {φ : Prop} {L M : List Item} {f : FuncId} {args : List Value}
theorem T.pack (hφ : φ) (h : T P r base n c Q ρ (packI φ L :: M)) : T P r base n c Q ρ (L ++ M) := fun a w N D hM ha hi =>
 h a w N D hM ha (by rw [List.append_assoc] at hi; exact Inv.pack hφ hi)
theorem T.unpack (h : φ → T P r base n c Q ρ (L ++ M)) : T P r base n c Q ρ (packI φ L :: M) := fun a w N D hM ha hi => by
 have hu := Inv.unpack (M := M ++ (mI D ++ N)) hi
 exact h hu.1 a w N D hM ha (by rw [List.append_assoc]; exact hu.2)
theorem CallT.packR {O : List Item} {R R' : Value → List Item → Prop} (h : CallT P base f args O R) (hr : ∀ v O', R v O' → ∃ φ L M, φ ∧ O' = L ++ M ∧ R' v (packI φ L :: M)) : CallT P base f args O R' := fun w N hI =>
 (h w N hI).mono fun _ _ ⟨v, O', h1, h2, h3⟩ => by
  obtain ⟨φ, L, M, hφ, rfl, hR⟩ := hr v O' h3
  exact ⟨v, packI φ L :: M, h1, Inv.pack (M := M ++ N) hφ (by rw [← List.append_assoc]; exact h2), hR⟩
theorem CallT.packO {R : Value → List Item → Prop} (h : φ → CallT P base f args (L ++ M) R) : CallT P base f args (packI φ L :: M) R := fun w N hI => by
 have hu := Inv.unpack (M := M ++ N) hI
 exact h hu.1 w N (by rw [List.append_assoc]; exact hu.2)
end
structure DK where
 nb : Option Addr
 nc : Nat
 fb : Option Addr
 fc : Nat
 qs : List Rec
abbrev dC (d : DFA) (k : DK) : List Value := dfaCells d k.nb k.nc k.fb k.fc
abbrev dV (d : DFA) (k : DK) : Value := .agg (dC d k).toArray
abbrev At (w : World) (d : DFA) (k : DK) : Prop := DfaAt w d k.nb (vals k.qs) k.fb
def dI (II Bo I : TypeId) (d : DFA) (k : DK) : Item := packI (nums k.qs = d.next) ([rowI k.nb k.nc II 1 (vals k.qs), rowI k.fb k.fc Bo 1 (bools d.final)] ++ itms I k.qs)
theorem Inv.at {base w : World} {O : List Item} {II Bo I : TypeId} {d : DFA} {k : DK} (hI : Inv base O w) (h : dI II Bo I d k ∈ O) : At w d k := by
 have h0 := hI.holds _ h
 have g : ∀ it ∈ [rowI k.nb k.nc II 1 (vals k.qs), rowI k.fb k.fc Bo 1 (bools d.final)] ++ itms I k.qs, it.P w := h0.2
 refine ⟨rowP.sl (g (rowI k.nb k.nc II 1 (vals k.qs)) (by simp)), ?_, rowP.sl (g (rowI k.fb k.fc Bo 1 (bools d.final)) (by simp))⟩
 rw [← h0.1]
 refine ⟨by simp, fun i x hx => ?_⟩
 rw [List.getElem?_map] at hx
 obtain ⟨q, hq, rfl⟩ := Option.map_eq_some_iff.1 hx
 refine ⟨q.b, q.c, by rw [List.getElem?_map, hq]; rfl, ?_⟩
 have : (Rec.itm I q).P w := g _ (List.mem_append_right _ (List.mem_map_of_mem (List.mem_of_getElem? hq)))
 exact rowP.sl this
theorem rows_rec {w : World} : ∀ {vs : List Value} {rs : List (List Int)}, RowsR w vs rs → ∃ qs : List Rec, vals qs = vs ∧ nums qs = rs
 | [], [], _ => ⟨[], rfl, rfl⟩
 | [], _ :: _, h => absurd h.1 (by simp)
 | _ :: _, [], h => absurd h.1 (by simp)
 | v :: vs, x :: rs, h => by
  obtain ⟨b, c, h1, h2⟩ := h.get (i := 0) (by simp)
  obtain ⟨qs, e1, e2⟩ := rows_rec (vs := vs) (rs := rs) ⟨by simpa using h.1, fun i y hy => by simpa using h.2 (i + 1) y (by simpa using hy)⟩
  refine ⟨⟨b, c, x⟩ :: qs, ?_, by simp [e2]⟩
  simp only [List.map_cons, e1, Rec.val]
  simp at h1
  rw [h1]
theorem DfaAt.dk {w : World} {d : DFA} {nb : Option Addr} {vs : List Value} {fb : Option Addr} (nc fc : Nat) (h : DfaAt w d nb vs fb) : ∃ k : DK, At w d k ∧ dfaCells d nb nc fb fc = dC d k := by
 obtain ⟨qs, rfl, e⟩ := rows_rec h.rows
 exact ⟨⟨nb, nc, fb, fc, qs⟩, h, rfl⟩
theorem CallT.dk {P : Program} {base : World} {f : FuncId} {args : List Value} {O : List Item} {II Bo I : TypeId} {D : DFA} {g : Value → Value} (h : CallT P base f args O fun v N => ∃ nb' nc' fb' fc' qs, v = g (.agg (dfaCells D nb' nc' fb' fc').toArray) ∧ N = [rowI nb' nc' II 1 (vals qs), rowI fb' fc' Bo 1 (bools D.final)] ++ itms I qs ∧ nums qs = D.next) :
  CallT P base f args O fun v N => ∃ k : DK, v = g (dV D k) ∧ N = [dI II Bo I D k] :=
 h.packR fun v O' hR => by
  obtain ⟨nb, nc, fb, fc, qs, rfl, rfl, hq⟩ := hR
  exact ⟨nums qs = D.next, _, [], hq, (List.append_nil _).symm, ⟨nb, nc, fb, fc, qs⟩, rfl, rfl⟩
theorem Inv.atB {base w : World} {O : List Item} {d : DFA} {k : DK} (hI : Inv base O w) (h : At base d k) : At w d k := hI.dfa h
end Go.Lx


namespace Go.Lx
open Go.RowKit
section
variable {P : Program} {base : World} {ρ : Env} {O : List Item} {dst : Option Nat} {t : TypeId} {p : String} {af : Array Edge} {g : Option (Nat × Bool)}
theorem q_ixArr {x y : Operand} {T E : TypeId} {b o n i : Nat} {k : IntKind} {z : Value} {s by_ : Nat} (hu : P.underlying T = some (.array n E)) (hi : Inf P E z s by_) (hx : ev ρ x = .pointer (some ⟨b, o, none⟩)) (hy : ev ρ y = .int k (i : Int)) (hlt : i < n) :
  QT P base ⟨dst, .indexAddr T x y, t, p, af, g⟩ ρ O (.pointer (some ⟨b, o + i * s, none⟩)) := fun w _ => by
 have h2 : (i : Int) < (n : Int) := by omega
 simp [execOp, hx, hy, Instr.indexAt, asIntOf, run_underlying' hu, hlt, run_sizeOf' hi, Instr.sureAddr, Addr.add]
 try (intro h; rcases h with h | h <;> simp [h])
end
structure WtM where
 n : Nat
 k : DK
 k2 : DK
 b : Option Addr
 c : Nat
def WtM.z : WtM := ⟨0, ⟨none, 0, none, 0, []⟩, ⟨none, 0, none, 0, []⟩, none, 0⟩
end Go.Lx


namespace Go.Lx
open Go.RowKit
theorem emask_of {e : Edge} (hb : Region.binds .any e = true) : ∀ {l : List Edge}, e ∈ l → (emask l).testBit e.on = true
 | a :: l, h => by
  rw [emask, Nat.testBit_or, Bool.or_eq_true]
  rcases List.mem_cons.1 h with rfl | h
  ·exact .inl (by rw [if_pos hb, Nat.one_shiftLeft, Nat.testBit_two_pow]; simp)
  ·exact .inr (emask_of hb h)
def rdyM (ops : Array Oper) (d j : Nat) : Bool := !d.testBit j && Nat.beq (omaskAt ops j &&& d) (omaskAt ops j)
def freeM (ops : Array Oper) (d i : Nat) : Bool := match ops[i]? with
 | none => false
 | some oi => (List.range ops.size).all fun j => Nat.beq j i || d.testBit j || (omaskAt ops j).testBit i || match ops[j]? with
  | some oj => oi.apart ops oj
  | none => true
def walkF (ops : Array Oper) (tail tail2 : List Nat) : List (Nat × Nat) → Nat → Bool
 | [], d => (List.range ops.size).all fun j => !rdyM ops d j
 | (i, 0) :: l, d => (waitB ops tail i && freeM ops d i && Nat.blt i ops.size && rdyM ops d i) && walkF ops tail tail2 l (d ||| 1 <<< i)
 | (i, 3) :: l, d => (waitB ops tail2 i && freeM ops d i && Nat.blt i ops.size && rdyM ops d i) && walkF ops tail tail2 l (d ||| 1 <<< i)
 | (i, _) :: l, d => (Nat.blt i ops.size && rdyM ops d i && (List.range ops.size).all fun j => Nat.beq j i || !rdyM ops d j) && walkF ops tail tail2 l (d ||| 1 <<< i)
def Agree (ops : Array Oper) (listed : Array Bool) (d : Nat) : Prop := listed.size = ops.size ∧ ∀ k, listed.getD k false = d.testBit k
theorem Agree.start (ops : Array Oper) : Agree ops (Array.replicate ops.size false) 0 := ⟨by simp, fun k => by
 rw [Nat.zero_testBit, Array.getD_eq_getD_getElem?, Array.getElem?_replicate]
 split <;> rfl⟩
theorem Agree.set {ops : Array Oper} {listed : Array Bool} {d i : Nat} (h : Agree ops listed d) (hi : i < ops.size) : Agree ops (listed.setIfInBounds i true) (d ||| 1 <<< i) := ⟨by simpa using h.1, fun k => by
 rw [Nat.testBit_or, Nat.one_shiftLeft, Nat.testBit_two_pow, ← h.2 k]
 by_cases e : i = k
 ·subst e
  have : i < listed.size := by rw [h.1]; exact hi
  simp [this]
 ·rw [getD_set_ne false e, decide_eq_false e, Bool.or_false]⟩
theorem Agree.ready {ops : Array Oper} {listed : Array Bool} {d j : Nat} (h : Agree ops listed d) (hj : j < ops.size) : j ∈ Region.ready .any ops listed ↔ rdyM ops d j = true := by
 have e1 : listed.getD j true = d.testBit j := by rw [← h.2 j]; exact getD_lt (by rw [h.1]; exact hj) _ _
 have ho : ops[j]? = some ops[j] := Array.getElem?_eq_getElem hj
 have hm : omaskAt ops j = emask ops[j].after.toList := by unfold omaskAt; rw [ho]
 rw [mem_ready, e1]
 unfold rdyM
 rw [Bool.and_eq_true, Bool.not_eq_true', Nat.beq_eq, hm]
 refine and_congr_right fun _ => ?_
 constructor
 ·rintro ⟨o, ho2, hall⟩
  rw [ho] at ho2; cases ho2
  refine Nat.eq_of_testBit_eq fun k => ?_
  rw [Nat.testBit_and]
  cases hk : (emask ops[j].after.toList).testBit k with
  | false => rfl
  | true =>
   obtain ⟨e, he, hb, rfl⟩ := emask_bit hk
   have := hall e (by simpa using he) hb
   rw [h.2] at this
   rw [this]; rfl
 ·intro he
  refine ⟨_, ho, fun e hmem hb => ?_⟩
  have hk := emask_of hb (l := ops[j].after.toList) (by simpa using hmem)
  rw [h.2]
  rw [← he, Nat.testBit_and, Bool.and_eq_true] at hk
  exact hk.2
theorem ready_lt {ops : Array Oper} {listed : Array Bool} {j : Nat} (h : j ∈ Region.ready .any ops listed) : j < ops.size := by
 obtain ⟨_, o, ho, _⟩ := mem_ready.1 h
 exact (Array.getElem?_eq_some_iff.1 ho).1
theorem single_of {l : List Nat} {i : Nat} (hn : l.Nodup) (h : ∀ j, j ∈ l ↔ j = i) : l = [i] := by
 cases l with
 | nil => exact absurd ((h i).2 rfl) (by simp)
 | cons a l =>
  obtain rfl : a = i := (h a).1 (by simp)
  have h1 := (List.nodup_cons.1 hn).1
  cases l with
  | nil => rfl
  | cons b l =>
   have : b = a := (h b).1 (by simp)
   subst this
   exact absurd (by simp) h1
theorem ready_nodup (ops : Array Oper) (listed : Array Bool) : (Region.ready .any ops listed).Nodup := by
 unfold Region.ready
 exact List.nodup_range.filter _
theorem free_ok {ops : Array Oper} {listed : Array Bool} {d i : Nat} (h : Agree ops listed d) (hf : freeM ops d i = true) : Region.free .any ops listed i = true := by
 unfold freeM at hf
 unfold Region.free
 cases ho : ops[i]? with
 | none => rw [ho] at hf; cases hf
 | some oi =>
  rw [ho] at hf
  simp only at hf ⊢
  rw [List.all_eq_true] at hf ⊢
  intro j hj
  have hjs : j < ops.size := List.mem_range.1 hj
  have h1 := hf j hj
  have e1 : listed.getD j true = d.testBit j := by rw [← h.2 j]; exact getD_lt (by rw [h.1]; exact hjs) _ _
  have hoj : ops[j]? = some ops[j] := Array.getElem?_eq_getElem hjs
  rw [hoj] at h1 ⊢
  simp only [Bool.or_eq_true] at h1 ⊢
  rw [e1]
  rcases h1 with ((h1 | h1) | h1) | h1
  ·exact .inl (.inl (by simpa using h1))
  ·exact .inl (.inr h1)
  ·obtain ⟨o, ho2, e, he, hb, hon⟩ := omaskAt_bit h1
   rw [hoj] at ho2; cases ho2
   exact .inr (.inl (Array.any_eq_true'.2 ⟨e, he, by rw [hb, hon]; simp⟩))
  ·exact .inr (.inr h1)
theorem loud_ok {ops : Array Oper} {tail tail2 : List Nat} {i : Nat} {l : List (Nat × Nat)} {listed : Array Bool} {d : Nat} (h : Agree ops listed d) (ih : ∀ {listed : Array Bool} {d : Nat}, Agree ops listed d → walkF ops tail tail2 l d = true → walkB ops tail tail2 l listed = true) (hw : ((Nat.blt i ops.size && rdyM ops d i && (List.range ops.size).all fun j => Nat.beq j i || !rdyM ops d j) && walkF ops tail tail2 l (d ||| 1 <<< i)) = true) : ((Region.ready .any ops listed == [i]) && walkB ops tail tail2 l (listed.setIfInBounds i true)) = true := by
 simp only [Bool.and_eq_true, Nat.blt_eq, List.all_eq_true, Bool.or_eq_true, Nat.beq_eq, Bool.not_eq_true'] at hw
 obtain ⟨⟨⟨h1, h2⟩, h3⟩, h4⟩ := hw
 rw [Bool.and_eq_true]
 refine ⟨?_, ih (h.set h1) h4⟩
 rw [beq_iff_eq]
 refine single_of (ready_nodup _ _) fun j => ⟨fun hj => ?_, fun e => e ▸ (h.ready h1).2 h2⟩
 have hjs := ready_lt hj
 rcases h3 j (List.mem_range.2 hjs) with e | e
 ·exact e
 ·rw [(h.ready hjs).1 hj] at e; cases e
theorem walkF_ok {ops : Array Oper} {tail tail2 : List Nat} : ∀ {l : List (Nat × Nat)} {listed : Array Bool} {d : Nat}, Agree ops listed d → walkF ops tail tail2 l d = true → walkB ops tail tail2 l listed = true
 | [], listed, d, h, hw => by
  simp only [walkF, List.all_eq_true] at hw
  show (Region.ready .any ops listed).isEmpty = true
  cases hr : Region.ready .any ops listed with
  | nil => rfl
  | cons j r =>
   have hj : j ∈ Region.ready .any ops listed := by rw [hr]; simp
   have h1 := hw j (List.mem_range.2 (ready_lt hj))
   rw [(h.ready (ready_lt hj)).1 hj] at h1; cases h1
 | (i, 0) :: l, listed, d, h, hw => by
  simp only [walkF, Bool.and_eq_true, Nat.blt_eq] at hw
  obtain ⟨⟨⟨⟨h1, h2⟩, h3⟩, h4⟩, h5⟩ := hw
  simp only [walkB, Bool.and_eq_true]
  exact ⟨⟨⟨h1, free_ok h h2⟩, by simpa using (h.ready h3).2 h4⟩, walkF_ok (h.set h3) h5⟩
 | (i, 3) :: l, listed, d, h, hw => by
  simp only [walkF, Bool.and_eq_true, Nat.blt_eq] at hw
  obtain ⟨⟨⟨⟨h1, h2⟩, h3⟩, h4⟩, h5⟩ := hw
  simp only [walkB, Bool.and_eq_true]
  exact ⟨⟨⟨h1, free_ok h h2⟩, by simpa using (h.ready h3).2 h4⟩, walkF_ok (h.set h3) h5⟩
 | (i, 1) :: l, listed, d, h, hw => loud_ok h walkF_ok hw
 | (i, 2) :: l, listed, d, h, hw => loud_ok h walkF_ok hw
 | (i, m + 4) :: l, listed, d, h, hw => loud_ok h walkF_ok hw
def drawF (ops : Array Oper) (l : List (Nat × Nat)) : Bool := (Region.noSelect ops && noDeferB ops && Nat.beq l.length ops.size && (l.all fun q => (q.2 == 2 || !(tailOf l).contains q.1) && (q.2 == 2 || q.2 == 4 || !(tailOf2 l).contains q.1))) && walkF ops (tailOf l) (tailOf2 l) l 0
theorem drawF_ok {ops : Array Oper} {l : List (Nat × Nat)} (h : drawF ops l = true) : drawB ops l = true := by
 simp only [drawF, Bool.and_eq_true, Nat.beq_eq] at h
 obtain ⟨⟨⟨⟨h1, h2⟩, h3⟩, h4⟩, h5⟩ := h
 simp only [drawB, Bool.and_eq_true]
 exact ⟨⟨⟨⟨h1, h2⟩, by rw [h3]; simp⟩, h4⟩, walkF_ok (Agree.start ops) h5⟩
end Go.Lx


namespace Go.Lx
open Go.RowKit
theorem T.reset {P : Program} {r : Option Nat} {base : World} {n : Nat} {c : Code} {Q : Post} {ρ : Env} {O : List Item} (O' : List Item) (L : List (Nat × Value)) (e : O = O') (h : Heads L ρ) (k : ∀ ρ0, T P r base n c Q (heads L ρ0) O') : T P r base n c Q ρ O := by
 obtain ⟨ρ0, rfl⟩ := h.elim
 subst e
 exact k ρ0
theorem Rnd.reset {P : Program} {r : Option Nat} {base : World} {n m : Nat} {c : Code} {Q : Post} {ρ : Env} {O : List Item} (O' : List Item) (L : List (Nat × Value)) (e : O = O') (h : Heads L ρ) (k : ∀ ρ0, Rnd P r base n c Q m (heads L ρ0) O') : Rnd P r base n c Q m ρ O := by
 obtain ⟨ρ0, rfl⟩ := h.elim
 subst e
 exact k ρ0
section
variable {P : Program} {base : World} {ρ : Env} {O : List Item} {dst : Option Nat} {t : TypeId} {p : String} {af : Array Edge} {g : Option (Nat × Bool)}
end
theorem sublist_rest {l O : List Item} (h : l.Sublist O) : ∃ D, O.Perm (l ++ D) := by
 induction h with
 | slnil => exact ⟨[], List.Perm.refl _⟩
 | cons a _ ih =>
  obtain ⟨D, hD⟩ := ih
  exact ⟨a :: D, (List.Perm.cons a hD).trans List.perm_middle.symm⟩
 | cons_cons a _ ih =>
  obtain ⟨D, hD⟩ := ih
  exact ⟨D, List.Perm.cons a hD⟩
theorem Sub.rest {S O : List Item} (h : Sub S O) : ∃ D, O.Perm (S ++ D) := by
 obtain ⟨l, hp, hs⟩ := h
 obtain ⟨D, hD⟩ := sublist_rest hs
 exact ⟨D, hD.trans (hp.symm.append_right D)⟩
end Go.Lx


namespace Go.Proofs.YtohkmggbfcnapaaGreatDoor
open Go.Lx Go.RowKit Go.Shelf _root_.Go.Proofs.Tryz
def tzRen : Go.Shelf.Ren := ⟨fun | 29 => 112 | n => n, fun | 0 => 0 | 3 => 3 | 4 => 4 | 5 => 5 | 22 => 107 | 25 => 52 | 54 => 163 | n => n, fun | 1 => 0 | n => n⟩
theorem tzLays : Go.Proofs.Lays7.n29 Tryz.prog tzRen := {
 mixed := by kernel_rfl
 f29 := func112.trans (congrArg some (by kernel_rfl))
 t0 := underlying0
 a0 := Tryz.isAgg0
 z0 := Tryz.sizeOf0
 v0 := Tryz.zeroValue0
 i0 := by kernel_rfl
 t3 := underlying3
 a3 := Tryz.isAgg3
 z3 := Tryz.sizeOf3
 v3 := Tryz.zeroValue3
 i3 := by kernel_rfl
 t4 := underlying4
 a4 := Tryz.isAgg4
 z4 := Tryz.sizeOf4
 v4 := Tryz.zeroValue4
 i4 := by kernel_rfl
 t5 := underlying5
 a5 := Tryz.isAgg5
 z5 := Tryz.sizeOf5
 v5 := Tryz.zeroValue5
 i5 := by kernel_rfl
 t22 := underlying107
 a22 := Tryz.isAgg107
 z22 := Tryz.sizeOf107
 v22 := Tryz.zeroValue107
 i22 := by kernel_rfl
 t25 := underlying52
 a25 := Tryz.isAgg52
 z25 := Tryz.sizeOf52
 v25 := Tryz.zeroValue52
 i25 := by kernel_rfl
 t54 := underlying163
 a54 := Tryz.isAgg163
 z54 := Tryz.sizeOf163
 g1 := by kernel_rfl
}
theorem tzC (w : World) [Tab Tryz.prog w] [Tab Tryz.prog w] (x : Nat) (h0 : x ≠ 0) (hx : x < 18446744073709551616) : PureT Tryz.prog 112 [.int .u64 (x : Int)] w fun v N => v = .int .i64 ((Lib.ctz 64 x : Nat) : Int) ∧ N = [] := fun w1 M hI =>
 (Any7.bits_TrailingZeros64 tzLays x hx w1 (fun _ j hj => by
  have h := (Tab.isTz (hI.tab (P := Tryz.prog)) (by decide)).cell (g := 0) (by kernel_rfl) j (by simpa [tzTab] using hj)
  rw [show tzTab.getD j 0 = ((Lib.deBruijn64tab.getD j 0 : Nat) : Int) by
   unfold tzTab; rw [List.getD_eq_getElem?_getD, List.getElem?_map, List.getD_eq_getElem?_getD, List.getElem?_eq_getElem hj]; rfl] at h
  exact h)).mono (by rintro e w' ⟨rfl, rfl⟩; exact ⟨_, [], rfl, hI, rfl, rfl⟩)
end Go.Proofs.YtohkmggbfcnapaaGreatDoor


namespace Go.Proofs.YtohkmggbfcnapaaGreatDoor
open Go.Lx Go.RowKit _root_.Go.Proofs.Tryz
theorem mixed : Tryz.prog.follows .mixedOrders = true := by kernel_rfl
theorem inf3 : Inf Tryz.prog 3 (.int .i64 0) 1 8 := by unfold Inf; kernel_rfl
theorem inf4 : Inf Tryz.prog 4 (.bool false) 1 1 := by unfold Inf; kernel_rfl
theorem inf5 : Inf Tryz.prog 5 (.int .u8 0) 1 1 := by unfold Inf; kernel_rfl
theorem inf22 : Inf Tryz.prog 22 ((.slice none 0 0)) 1 24 := by unfold Inf; kernel_rfl
theorem inf23 : Inf Tryz.prog 23 ((.slice none 0 0)) 1 24 := by unfold Inf; kernel_rfl
theorem inf25 : Inf Tryz.prog 25 ((.agg #[(.int .i64 0), (.int .i64 0), (.slice none 0 0), (.slice none 0 0)])) 4 64 := by unfold Inf; kernel_rfl
theorem inf29 : Inf Tryz.prog 29 (.int .i64 0) 1 8 := by unfold Inf; kernel_rfl
theorem inf37 : Inf Tryz.prog 37 ((.slice none 0 0)) 1 24 := by unfold Inf; kernel_rfl
theorem inf67 : Inf Tryz.prog 67 ((.slice none 0 0)) 1 24 := by unfold Inf; kernel_rfl
theorem inf71 : Inf Tryz.prog 71 (.map none) 1 8 := by unfold Inf; kernel_rfl
theorem inf107 : Inf Tryz.prog 107 (.int .u64 0) 1 8 := by unfold Inf; kernel_rfl
theorem inf112 : Inf Tryz.prog 112 (.pointer none) 1 8 := by unfold Inf; kernel_rfl
theorem inf119 : Inf Tryz.prog 119 ((.agg #[(.int .i64 0), (.int .i64 0)])) 2 16 := by unfold Inf; kernel_rfl
theorem inf120 : Inf Tryz.prog 120 ((.slice none 0 0)) 1 24 := by unfold Inf; kernel_rfl
theorem inf121 : Inf Tryz.prog 121 (.map none) 1 8 := by unfold Inf; kernel_rfl
theorem inf123 : Inf Tryz.prog 123 ((.agg #[(.int .i64 0), (.int .i64 0), (.slice none 0 0), (.slice none 0 0), (.int .i64 0), (.int .i64 0), (.slice none 0 0), (.slice none 0 0), (.slice none 0 0), (.map none)])) 10 160 := by unfold Inf; kernel_rfl
theorem inf127 : Inf Tryz.prog 127 ((.agg #[(.int .i64 0), (.int .i64 0), (.slice none 0 0), (.slice none 0 0)])) 4 64 := by unfold Inf; kernel_rfl
theorem inf154 : Inf Tryz.prog 154 (.nilFunc) 1 8 := by unfold Inf; kernel_rfl
theorem inf159 : Inf Tryz.prog 159 ((.agg #[(.int .u8 0), (.int .u8 0), (.int .u8 0), (.int .u8 0), (.int .u8 0), (.int .u8 0), (.int .u8 0), (.int .u8 0), (.int .u8 0), (.int .u8 0), (.int .u8 0), (.int .u8 0), (.int .u8 0), (.int .u8 0), (.int .u8 0), (.int .u8 0), (.int .u8 0), (.int .u8 0), (.int .u8 0), (.int .u8 0), (.int .u8 0), (.int .u8 0), (.int .u8 0), (.int .u8 0)])) 24 24 := by unfold Inf; kernel_rfl
theorem inf180 : Inf Tryz.prog 180 ((.agg #[(.int .u8 0), (.int .u8 0), (.int .u8 0), (.int .u8 0), (.int .u8 0), (.int .u8 0), (.int .u8 0), (.int .u8 0), (.int .u8 0), (.int .u8 0), (.int .u8 0), (.int .u8 0), (.int .u8 0), (.int .u8 0), (.int .u8 0), (.int .u8 0), (.int .u8 0), (.int .u8 0), (.int .u8 0), (.int .u8 0), (.int .u8 0), (.int .u8 0), (.int .u8 0), (.int .u8 0), (.int .u8 0), (.int .u8 0), (.int .u8 0), (.int .u8 0), (.int .u8 0), (.int .u8 0), (.int .u8 0), (.int .u8 0), (.int .u8 0), (.int .u8 0), (.int .u8 0), (.int .u8 0), (.int .u8 0), (.int .u8 0), (.int .u8 0), (.int .u8 0), (.int .u8 0), (.int .u8 0), (.int .u8 0), (.int .u8 0), (.int .u8 0), (.int .u8 0), (.int .u8 0), (.int .u8 0), (.int .u8 0), (.int .u8 0), (.int .u8 0), (.int .u8 0), (.int .u8 0), (.int .u8 0), (.int .u8 0), (.int .u8 0), (.int .u8 0), (.int .u8 0), (.int .u8 0), (.int .u8 0), (.int .u8 0), (.int .u8 0), (.int .u8 0), (.int .u8 0), (.int .u8 0)])) 65 65 := by unfold Inf; kernel_rfl
theorem plan25 : Plan Tryz.prog 25 [(0, 1), (1, 1), (2, 1), (3, 1)] := ⟨_, underlying25, fun w => by simp [run_sizeOf' inf3, run_sizeOf' inf22, run_sizeOf' inf23]⟩
theorem plan119 : Plan Tryz.prog 119 [(0, 1), (1, 1)] := ⟨_, underlying119, fun w => by simp [run_sizeOf' inf3]⟩
theorem plan123 : Plan Tryz.prog 123 [(0, 4), (4, 4), (8, 1), (9, 1)] := ⟨_, underlying123, fun w => by simp [run_sizeOf' inf25, run_sizeOf' inf120, run_sizeOf' inf121]⟩
theorem plan127 : Plan Tryz.prog 127 [(0, 4)] := ⟨_, underlying127, fun w => by simp [run_sizeOf' inf25]⟩
theorem ent10 : Lx.Enters Tryz.prog 10 f10 := ⟨func10, by kernel_rfl, rfl⟩
theorem ent11 : Lx.Enters Tryz.prog 11 f11 := ⟨func11, by kernel_rfl, rfl⟩
theorem ent12 : Lx.Enters Tryz.prog 12 f12 := ⟨func12, by kernel_rfl, rfl⟩
theorem ent13 : Lx.Enters Tryz.prog 13 f13 := ⟨func13, by kernel_rfl, rfl⟩
theorem ent14 : Lx.Enters Tryz.prog 14 f14 := ⟨func14, by kernel_rfl, rfl⟩
theorem ent15 : Lx.Enters Tryz.prog 15 f15 := ⟨func15, by kernel_rfl, rfl⟩
theorem ent16 : Lx.Enters Tryz.prog 16 f16 := ⟨func16, by kernel_rfl, rfl⟩
theorem ent17 : Lx.Enters Tryz.prog 17 f17 := ⟨func17, by kernel_rfl, rfl⟩
theorem ent18 : Lx.Enters Tryz.prog 18 f18 := ⟨func18, by kernel_rfl, rfl⟩
theorem ent19 : Lx.Enters Tryz.prog 19 f19 := ⟨func19, by kernel_rfl, rfl⟩
theorem ent20 : Lx.Enters Tryz.prog 20 f20 := ⟨func20, by kernel_rfl, rfl⟩
theorem ent21 : Lx.Enters Tryz.prog 21 f21 := ⟨func21, by kernel_rfl, rfl⟩
theorem ent22 : Lx.Enters Tryz.prog 22 f22 := ⟨func22, by kernel_rfl, rfl⟩
theorem ent26 : Lx.Enters Tryz.prog 26 f26 := ⟨func26, by kernel_rfl, rfl⟩
theorem ent27 : Lx.Enters Tryz.prog 27 f27 := ⟨func27, by kernel_rfl, rfl⟩
theorem ent28 : Lx.Enters Tryz.prog 28 f28 := ⟨func28, by kernel_rfl, rfl⟩
theorem ent29 : Lx.Enters Tryz.prog 29 f29 := ⟨func29, by kernel_rfl, rfl⟩
theorem ent30 : Lx.Enters Tryz.prog 30 f30 := ⟨func30, by kernel_rfl, rfl⟩
theorem ent31 : Lx.Enters Tryz.prog 31 f31 := ⟨func31, by kernel_rfl, rfl⟩
theorem ent32 : Lx.Enters Tryz.prog 32 f32 := ⟨func32, by kernel_rfl, rfl⟩
theorem ent34 : Lx.Enters Tryz.prog 34 f34 := ⟨func34, by kernel_rfl, rfl⟩
theorem ent35 : Lx.Enters Tryz.prog 35 f35 := ⟨func35, by kernel_rfl, rfl⟩
theorem ent37 : Lx.Enters Tryz.prog 37 f37 := ⟨func37, by kernel_rfl, rfl⟩
theorem ent38 : Lx.Enters Tryz.prog 38 f38 := ⟨func38, by kernel_rfl, rfl⟩
theorem ent39 : Lx.Enters Tryz.prog 39 f39 := ⟨func39, by kernel_rfl, rfl⟩
theorem ent40 : Lx.Enters Tryz.prog 40 f40 := ⟨func40, by kernel_rfl, rfl⟩
theorem ent41 : Lx.Enters Tryz.prog 41 f41 := ⟨func41, by kernel_rfl, rfl⟩
theorem ent42 : Lx.Enters Tryz.prog 42 f42 := ⟨func42, by kernel_rfl, rfl⟩
theorem ent43 : Lx.Enters Tryz.prog 43 f43 := ⟨func43, by kernel_rfl, rfl⟩
theorem ent44 : Lx.Enters Tryz.prog 44 f44 := ⟨func44, by kernel_rfl, rfl⟩
theorem ent45 : Lx.Enters Tryz.prog 45 f45 := ⟨func45, by kernel_rfl, rfl⟩
theorem ent46 : Lx.Enters Tryz.prog 46 f46 := ⟨func46, by kernel_rfl, rfl⟩
theorem ent47 : Lx.Enters Tryz.prog 47 f47 := ⟨func47, by kernel_rfl, rfl⟩
theorem ent48 : Lx.Enters Tryz.prog 48 f48 := ⟨func48, by kernel_rfl, rfl⟩
theorem ent49 : Lx.Enters Tryz.prog 49 f49 := ⟨func49, by kernel_rfl, rfl⟩
theorem ent50 : Lx.Enters Tryz.prog 50 f50 := ⟨func50, by kernel_rfl, rfl⟩
theorem ent51 : Lx.Enters Tryz.prog 51 f51 := ⟨func51, by kernel_rfl, rfl⟩
theorem ent52 : Lx.Enters Tryz.prog 52 f52 := ⟨func52, by kernel_rfl, rfl⟩
theorem ent53 : Lx.Enters Tryz.prog 53 f53 := ⟨func53, by kernel_rfl, rfl⟩
theorem ent54 : Lx.Enters Tryz.prog 54 f54 := ⟨func54, by kernel_rfl, rfl⟩
theorem ent55 : Lx.Enters Tryz.prog 55 f55 := ⟨func55, by kernel_rfl, rfl⟩
theorem ent56 : Lx.Enters Tryz.prog 56 f56 := ⟨func56, by kernel_rfl, rfl⟩
theorem ent57 : Lx.Enters Tryz.prog 57 f57 := ⟨func57, by kernel_rfl, rfl⟩
theorem ent62 : Lx.Enters Tryz.prog 62 f62 := ⟨func62, by kernel_rfl, rfl⟩
theorem ent63 : Lx.Enters Tryz.prog 63 f63 := ⟨func63, by kernel_rfl, rfl⟩
theorem ent64 : Lx.Enters Tryz.prog 64 f64 := ⟨func64, by kernel_rfl, rfl⟩
theorem ent65 : Lx.Enters Tryz.prog 65 f65 := ⟨func65, by kernel_rfl, rfl⟩
theorem ent66 : Lx.Enters Tryz.prog 66 f66 := ⟨func66, by kernel_rfl, rfl⟩
theorem ent67 : Lx.Enters Tryz.prog 67 f67 := ⟨func67, by kernel_rfl, rfl⟩
theorem ent68 : Lx.Enters Tryz.prog 68 f68 := ⟨func68, by kernel_rfl, rfl⟩
theorem ent69 : Lx.Enters Tryz.prog 69 f69 := ⟨func69, by kernel_rfl, rfl⟩
theorem ent70 : Lx.Enters Tryz.prog 70 f70 := ⟨func70, by kernel_rfl, rfl⟩
theorem ent72 : Lx.Enters Tryz.prog 72 f72 := ⟨func72, by kernel_rfl, rfl⟩
theorem ent73 : Lx.Enters Tryz.prog 73 f73 := ⟨func73, by kernel_rfl, rfl⟩
theorem ent74 : Lx.Enters Tryz.prog 74 f74 := ⟨func74, by kernel_rfl, rfl⟩
theorem ent75 : Lx.Enters Tryz.prog 75 f75 := ⟨func75, by kernel_rfl, rfl⟩
theorem ent76 : Lx.Enters Tryz.prog 76 f76 := ⟨func76, by kernel_rfl, rfl⟩
theorem ent80 : Lx.Enters Tryz.prog 80 f80 := ⟨func80, by kernel_rfl, rfl⟩
theorem ent81 : Lx.Enters Tryz.prog 81 f81 := ⟨func81, by kernel_rfl, rfl⟩
theorem ent82 : Lx.Enters Tryz.prog 82 f82 := ⟨func82, by kernel_rfl, rfl⟩
theorem ent83 : Lx.Enters Tryz.prog 83 f83 := ⟨func83, by kernel_rfl, rfl⟩
theorem ent84 : Lx.Enters Tryz.prog 84 f84 := ⟨func84, by kernel_rfl, rfl⟩
theorem ent85 : Lx.Enters Tryz.prog 85 f85 := ⟨func85, by kernel_rfl, rfl⟩
theorem ent86 : Lx.Enters Tryz.prog 86 f86 := ⟨func86, by kernel_rfl, rfl⟩
theorem ent87 : Lx.Enters Tryz.prog 87 f87 := ⟨func87, by kernel_rfl, rfl⟩
theorem ent88 : Lx.Enters Tryz.prog 88 f88 := ⟨func88, by kernel_rfl, rfl⟩
theorem ent89 : Lx.Enters Tryz.prog 89 f89 := ⟨func89, by kernel_rfl, rfl⟩
theorem ent90 : Lx.Enters Tryz.prog 90 f90 := ⟨func90, by kernel_rfl, rfl⟩
theorem ent91 : Lx.Enters Tryz.prog 91 f91 := ⟨func91, by kernel_rfl, rfl⟩
theorem ent92 : Lx.Enters Tryz.prog 92 f92 := ⟨func92, by kernel_rfl, rfl⟩
theorem ent93 : Lx.Enters Tryz.prog 93 f93 := ⟨func93, by kernel_rfl, rfl⟩
theorem ent94 : Lx.Enters Tryz.prog 94 f94 := ⟨func94, by kernel_rfl, rfl⟩
theorem ent95 : Lx.Enters Tryz.prog 95 f95 := ⟨func95, by kernel_rfl, rfl⟩
theorem ent96 : Lx.Enters Tryz.prog 96 f96 := ⟨func96, by kernel_rfl, rfl⟩
theorem ent97 : Lx.Enters Tryz.prog 97 f97 := ⟨func97, by kernel_rfl, rfl⟩
theorem ent98 : Lx.Enters Tryz.prog 98 f98 := ⟨func98, by kernel_rfl, rfl⟩
theorem ent99 : Lx.Enters Tryz.prog 99 f99 := ⟨func99, by kernel_rfl, rfl⟩
theorem ent100 : Lx.Enters Tryz.prog 100 f100 := ⟨func100, by kernel_rfl, rfl⟩
theorem ent101 : Lx.Enters Tryz.prog 101 f101 := ⟨func101, by kernel_rfl, rfl⟩
theorem ent102 : Lx.Enters Tryz.prog 102 f102 := ⟨func102, by kernel_rfl, rfl⟩
theorem ent105 : Lx.Enters Tryz.prog 105 f105 := ⟨func105, by kernel_rfl, rfl⟩
theorem ent106 : Lx.Enters Tryz.prog 106 f106 := ⟨func106, by kernel_rfl, rfl⟩
theorem ent107 : Lx.Enters Tryz.prog 107 f107 := ⟨func107, by kernel_rfl, rfl⟩
theorem ent108 : Lx.Enters Tryz.prog 108 f108 := ⟨func108, by kernel_rfl, rfl⟩
theorem ent109 : Lx.Enters Tryz.prog 109 f109 := ⟨func109, by kernel_rfl, rfl⟩
theorem ent110 : Lx.Enters Tryz.prog 110 f110 := ⟨func110, by kernel_rfl, rfl⟩
theorem ent111 : Lx.Enters Tryz.prog 111 f111 := ⟨func111, by kernel_rfl, rfl⟩
theorem ent112 : Lx.Enters Tryz.prog 112 f112 := ⟨func112, by kernel_rfl, rfl⟩
theorem ent113 : Lx.Enters Tryz.prog 113 f113 := ⟨func113, by kernel_rfl, rfl⟩
theorem ent116 : Lx.Enters Tryz.prog 116 f116 := ⟨func116, by kernel_rfl, rfl⟩
theorem ent117 : Lx.Enters Tryz.prog 117 f117 := ⟨func117, by kernel_rfl, rfl⟩
theorem ent118 : Lx.Enters Tryz.prog 118 f118 := ⟨func118, by kernel_rfl, rfl⟩
theorem ent119 : Lx.Enters Tryz.prog 119 f119 := ⟨func119, by kernel_rfl, rfl⟩
theorem ent120 : Lx.Enters Tryz.prog 120 f120 := ⟨func120, by kernel_rfl, rfl⟩
theorem ent121 : Lx.Enters Tryz.prog 121 f121 := ⟨func121, by kernel_rfl, rfl⟩
theorem ent123 : Lx.Enters Tryz.prog 123 f123 := ⟨func123, by kernel_rfl, rfl⟩
theorem ent124 : Lx.Enters Tryz.prog 124 f124 := ⟨func124, by kernel_rfl, rfl⟩
theorem ent125 : Lx.Enters Tryz.prog 125 f125 := ⟨func125, by kernel_rfl, rfl⟩
theorem ent126 : Lx.Enters Tryz.prog 126 f126 := ⟨func126, by kernel_rfl, rfl⟩
theorem ent127 : Lx.Enters Tryz.prog 127 f127 := ⟨func127, by kernel_rfl, rfl⟩
theorem ent128 : Lx.Enters Tryz.prog 128 f128 := ⟨func128, by kernel_rfl, rfl⟩
theorem ent129 : Lx.Enters Tryz.prog 129 f129 := ⟨func129, by kernel_rfl, rfl⟩
theorem ent130 : Lx.Enters Tryz.prog 130 f130 := ⟨func130, by kernel_rfl, rfl⟩
theorem ent142 : Lx.Enters Tryz.prog 142 f142 := ⟨func142, by kernel_rfl, rfl⟩
theorem ent143 : Lx.Enters Tryz.prog 143 f143 := ⟨func143, by kernel_rfl, rfl⟩
theorem ent145 : Lx.Enters Tryz.prog 145 f145 := ⟨func145, by kernel_rfl, rfl⟩
theorem ent146 : Lx.Enters Tryz.prog 146 f146 := ⟨func146, by kernel_rfl, rfl⟩
theorem ent149 : Lx.Enters Tryz.prog 149 f149 := ⟨func149, by kernel_rfl, rfl⟩
theorem ent150 : Lx.Enters Tryz.prog 150 f150 := ⟨func150, by kernel_rfl, rfl⟩
theorem ent157 : Lx.Enters Tryz.prog 157 f157 := ⟨func157, by kernel_rfl, rfl⟩
end Go.Proofs.YtohkmggbfcnapaaGreatDoor


namespace Go.Lx
def rowOk (n : Nat) (r : List Int) : Bool := r.all fun x => decide (0 ≤ x) && decide (x < (n : Int))
def rowsE (L n : Nat) : List (List Int) → Nat
 | [] => 0
 | r :: rs => if r.length ≠ L then 2 else if rowOk n r = true then rowsE L n rs else 8
def checkD (d : DFA) : Nat :=
 if ¬ (0 ≤ d.vars ∧ d.vars ≤ 6) then 7
 else if d.next.length = 0 then 3
 else if 4096 < d.next.length then 4
 else if d.final.length ≠ d.next.length then 2
 else if d.start < 0 ∨ (d.next.length : Int) ≤ d.start then 8
 else rowsE (2 ^ d.vars.toNat) d.next.length d.next
theorem rowsE_at {L n : Nat} {rs : List (List Int)} {k : Nat} (hk : k < rs.length) : rowsE L n (rs.drop k) = if rs[k].length ≠ L then 2 else if rowOk n rs[k] = true then rowsE L n (rs.drop (k + 1)) else 8 := by
 rw [List.drop_eq_getElem_cons hk]; rfl
theorem rowsE_end {L n : Nat} {rs : List (List Int)} {k : Nat} (hk : rs.length ≤ k) : rowsE L n (rs.drop k) = 0 := by
 rw [List.drop_eq_nil_of_le hk]; rfl
theorem rowOk_step {n : Nat} {r : List Int} {j : Nat} (hj : j < r.length) (h : rowOk n (r.take j) = true) (h0 : ¬ r[j] < 0) (h1 : ¬ (n : Int) ≤ r[j]) : rowOk n (r.take (j + 1)) = true := by
 rw [List.take_succ_eq_append_getElem hj]
 simp only [rowOk, List.all_append, Bool.and_eq_true] at h ⊢
 refine ⟨h, ?_⟩
 simp; omega
theorem rowOk_bad {n : Nat} {r : List Int} {j : Nat} (hj : j < r.length) (h : r[j] < 0 ∨ (n : Int) ≤ r[j]) : ¬ rowOk n r = true := by
 intro hh
 simp only [rowOk, List.all_eq_true, Bool.and_eq_true, decide_eq_true_eq] at hh
 have := hh _ (List.getElem_mem hj)
 omega
theorem rowOk_full {n : Nat} {r : List Int} {j : Nat} (hj : r.length ≤ j) (h : rowOk n (r.take j) = true) : rowOk n r = true := by
 rwa [List.take_of_length_le hj] at h
structure Val (d : DFA) : Prop where
 v0 : 0 ≤ d.vars
 v6 : d.vars ≤ 6
 n0 : 0 < d.next.length
 fin : d.final.length = d.next.length
 s0 : 0 ≤ d.start
 s1 : d.start < (d.next.length : Int)
 len : ∀ r ∈ d.next, r.length = 2 ^ d.vars.toNat
 ok : ∀ r ∈ d.next, ∀ x ∈ r, 0 ≤ x ∧ x < (d.next.length : Int)
structure Valid (d : DFA) : Prop extends Val d where
 n4 : d.next.length ≤ 4096
instance {d : DFA} : Coe (Valid d) (Val d) := ⟨Valid.toVal⟩
theorem rowsE_zero {L n : Nat} : ∀ {rs : List (List Int)}, rowsE L n rs = 0 ↔ (∀ r ∈ rs, r.length = L) ∧ ∀ r ∈ rs, ∀ x ∈ r, 0 ≤ x ∧ x < (n : Int)
 | [] => by simp [rowsE]
 | r :: rs => by
  have ih := rowsE_zero (L := L) (n := n) (rs := rs)
  simp only [rowsE]
  by_cases h : r.length = L
  ·by_cases h2 : rowOk n r = true
   ·simp only [h, ne_eq, not_true_eq_false, if_false, h2, if_true, ih, List.mem_cons, forall_eq_or_imp, true_and]
    have h3 : ∀ x ∈ r, 0 ≤ x ∧ x < (n : Int) := by simpa [rowOk] using h2
    exact ⟨fun q => ⟨q.1, h3, q.2⟩, fun q => ⟨q.1, q.2.2⟩⟩
   ·simp only [h, ne_eq, not_true_eq_false, if_false, h2]
    refine ⟨fun q => by simp at q, fun q => (h2 ?_).elim⟩
    have := q.2 r (by simp)
    simpa [rowOk] using this
  ·simp only [ne_eq, h, not_false_eq_true, if_true]
   exact ⟨fun q => by simp at q, fun q => (h (q.1 r (by simp))).elim⟩
theorem checkD_zero {d : DFA} : checkD d = 0 ↔ Valid d := by
 unfold checkD
 constructor
 ·intro h
  split at h; · cases h
  split at h; · cases h
  split at h; · cases h
  split at h; · cases h
  split at h; · cases h
  rename_i h1 h2 h3 h4 h5
  obtain ⟨h6, h7⟩ := rowsE_zero.1 h
  simp only [Classical.not_not] at h1 h4
  exact ⟨⟨h1.1, h1.2, by omega, h4, by omega, by omega, h6, h7⟩, by omega⟩
 ·intro h
  rw [if_neg (by have := h.v0; have := h.v6; simp; omega), if_neg (by have := h.n0; omega), if_neg (by have := h.n4; omega), if_neg (by simp [h.fin]), if_neg (by have := h.s0; have := h.s1; omega)]
  exact rowsE_zero.2 ⟨h.len, h.ok⟩
theorem Val.width {d : DFA} (h : Val d) : 2 ^ d.vars.toNat ≤ 64 :=
 Nat.le_trans (Nat.pow_le_pow_right (by omega) (show d.vars.toNat ≤ 6 by have := h.v0; have := h.v6; omega)) (by decide)
theorem Val.bound {d : DFA} (h : Val d) : ∀ r ∈ d.next, r.length < 9223372036854775807 := fun r hr => by
 have := h.len r hr; have := h.width; omega
end Go.Lx


namespace Go.Lx
section
variable {α : Type} [DecidableEq α]
def ix (x : α) : List α → Nat
 | [] => 0
 | k :: ks => if x = k then 0 else ix x ks + 1
theorem ix_lt {x : α} : ∀ {ks : List α}, x ∈ ks → ix x ks < ks.length
 | k :: ks, h => by
  simp only [ix]
  split
  ·simp
  ·rename_i e
   have := ix_lt ((List.mem_cons.1 h).resolve_left e)
   simp; omega
theorem ix_get {x : α} : ∀ {ks : List α}, x ∈ ks → ks[ix x ks]? = some x
 | k :: ks, h => by
  simp only [ix]
  split
  ·rename_i e; simp [e]
  ·rename_i e
   simpa using ix_get ((List.mem_cons.1 h).resolve_left e)
theorem ix_inj {x y : α} {ks : List α} (hx : x ∈ ks) (hy : y ∈ ks) (h : ix x ks = ix y ks) : x = y := by
 have h1 := ix_get hx
 rw [h, ix_get hy] at h1
 exact (Option.some.inj h1).symm
theorem ix_append_left {x : α} {ms : List α} : ∀ {ks : List α}, x ∈ ks → ix x (ks ++ ms) = ix x ks
 | k :: ks, h => by
  simp only [List.cons_append, ix]
  split
  ·rfl
  ·rename_i e; rw [ix_append_left ((List.mem_cons.1 h).resolve_left e)]
theorem ix_append_right {x : α} {ms : List α} : ∀ {ks : List α}, x ∉ ks → ix x (ks ++ ms) = ks.length + ix x ms
 | [], _ => by simp
 | k :: ks, h => by
  simp only [List.mem_cons, not_or] at h
  simp only [List.cons_append, ix, h.1, if_false, ix_append_right h.2, List.length_cons]
  omega
def add (ks : List α) (k : α) : List α := if k ∈ ks then ks else ks ++ [k]
def dd (l : List α) : List α := l.foldl add []
theorem mem_add {ks : List α} {k x : α} : x ∈ add ks k ↔ x ∈ ks ∨ x = k := by
 unfold add
 split
 ·rename_i h
  exact ⟨.inl, fun h' => h'.elim id (fun e => e ▸ h)⟩
 ·simp
theorem add_nodup {ks : List α} {k : α} (h : ks.Nodup) : (add ks k).Nodup := by
 unfold add
 split
 ·exact h
 ·rename_i hk
  rw [List.nodup_append]
  refine ⟨h, by simp, fun a ha b hb e => ?_⟩
  simp at hb; subst hb; subst e; exact hk ha
theorem add_prefix (ks : List α) (k : α) : ks <+: add ks k := by
 unfold add
 split
 ·exact List.prefix_refl _
 ·exact List.prefix_append _ _
theorem foldl_prefix : ∀ (l ks : List α), ks <+: l.foldl add ks
 | [], ks => List.prefix_refl _
 | k :: l, ks => (add_prefix ks k).trans (foldl_prefix l (add ks k))
theorem dd_append (l m : List α) : dd (l ++ m) = m.foldl add (dd l) := by simp [dd]
theorem dd_snoc (l : List α) (k : α) : dd (l ++ [k]) = add (dd l) k := by simp [dd]
theorem mem_dd {l : List α} {x : α} : x ∈ dd l ↔ x ∈ l := by
 have : ∀ (l ks : List α), x ∈ l.foldl add ks ↔ x ∈ ks ∨ x ∈ l := by
  intro l
  induction l with
  | nil => intro ks; simp
  | cons k l ih => intro ks; rw [List.foldl_cons, ih, mem_add, List.mem_cons, or_assoc]
 rw [dd, this]; simp
theorem ix_prefix {ks ms : List α} (h : ks <+: ms) {x : α} (hx : x ∈ ks) : ix x ms = ix x ks := by
 obtain ⟨t, rfl⟩ := h
 exact ix_append_left hx
theorem look_zip {x : α} : ∀ (ks : List α) (i : Nat), lookL x (ks.zipIdx i) = if x ∈ ks then some (i + ix x ks) else none
 | [], i => by simp [lookL]
 | k :: ks, i => by
  simp only [List.zipIdx_cons, lookL]
  by_cases e : x = k
  ·subst e; simp [ix]
  ·rw [if_neg e, look_zip ks (i + 1)]
   by_cases h : x ∈ ks
   ·simp [h, e, ix]; omega
   ·simp [h, e]
theorem zipIdx_fst (ks : List α) (i : Nat) : (ks.zipIdx i).map Prod.fst = ks := by
 induction ks generalizing i with
 | nil => rfl
 | cons k ks ih => simp [List.zipIdx_cons]
end
def rowK (cs : List Nat) (r : List Int) : List Nat := r.map fun to => cs.getD to.toNat 0
def keyD (d : DFA) (cs : List Nat) (s : Nat) : List UInt8 := keyK (cs.getD s 0) (rowK cs (d.next.getD s []))
def keysD (d : DFA) (cs : List Nat) : List (List UInt8) := (List.range d.next.length).map (keyD d cs)
def refineF (d : DFA) (cs : List Nat) : List Nat := (keysD d cs).map fun k => ix k (dd (keysD d cs))
theorem cells8_snoc (l : List UInt8) : cells8 (l ++ [32]) = cells8 l ++ [Value.int .u8 32] := by simp
theorem keyK_step {a j : Nat} {l : List Nat} (hj : j < l.length) : keyK a (l.take (j + 1)) = keyK a (l.take j) ++ [32] ++ Lib.decDigits l[j] := by
 rw [List.take_succ_eq_append_getElem hj, keyK, keyK, tailK_append]; simp
theorem tailK_len : ∀ {l : List Nat}, (∀ x ∈ l, x < 10000) → (tailK l).length ≤ 5 * l.length
 | [], _ => by simp [tailK]
 | a :: l, h => by
  have h1 := dec_len 3 a (by have := h a (by simp); omega)
  have h2 := tailK_len (l := l) (fun x hx => h x (by simp [hx]))
  simp only [tailK, List.length_cons, List.length_append]
  omega
theorem keyK_len {a : Nat} {l : List Nat} (ha : a < 10000) (h : ∀ x ∈ l, x < 10000) : (keyK a l).length ≤ 4 + 5 * l.length := by
 have h1 := dec_len 3 a (by omega)
 have h2 := tailK_len h
 simp only [keyK, List.length_append]
 omega
theorem keysD_take {d : DFA} {cs : List Nat} {k : Nat} (hk : k < d.next.length) : (keysD d cs).take (k + 1) = (keysD d cs).take k ++ [keyD d cs k] := by
 have hl : k < (keysD d cs).length := by simpa [keysD] using hk
 rw [List.take_succ_eq_append_getElem hl]
 simp [keysD]
theorem keyD_eq {d : DFA} {cs : List Nat} {k : Nat} (hk : k < d.next.length) (hc : k < cs.length) : keyD d cs k = keyK cs[k] (rowK cs d.next[k]) := by
 simp [keyD, hk, hc]
theorem rowK_lt {cs : List Nat} (h : ∀ x ∈ cs, x < 10000) {r : List Int} : ∀ x ∈ rowK cs r, x < 10000 := by
 intro x hx
 obtain ⟨to, _, rfl⟩ := List.mem_map.1 hx
 rw [List.getD_eq_getElem?_getD]
 cases e : cs[to.toNat]? with
 | none => simp
 | some y => exact h y (List.mem_of_getElem? e)
theorem dd_length {α : Type} [DecidableEq α] (l : List α) : (dd l).length ≤ l.length := by
 have : ∀ (l ks : List α), (l.foldl add ks).length ≤ ks.length + l.length := by
  intro l
  induction l with
  | nil => intro ks; simp
  | cons k l ih =>
   intro ks
   have h1 := ih (add ks k)
   have h2 : (add ks k).length ≤ ks.length + 1 := by unfold add; split <;> simp
   simp only [List.foldl_cons, List.length_cons]
   omega
 simpa [dd] using this l []
theorem keyD_mem {d : DFA} {cs : List Nat} {k s : Nat} (hs : s < k) (hk : k ≤ d.next.length) : keyD d cs s ∈ (keysD d cs).take k := by
 rw [keysD, ← List.map_take]
 refine List.mem_map_of_mem ?_
 rw [List.take_range]
 simp; omega
theorem rowK_length (cs : List Nat) (r : List Int) : (rowK cs r).length = r.length := List.length_map _
theorem rowK_get {cs : List Nat} {r : List Int} {j : Nat} (hj : j < r.length) (h : r[j].toNat < cs.length) : (rowK cs r)[j]'(by rw [rowK_length]; exact hj) = cs[r[j].toNat] := by
 simp [rowK, h]
theorem keyK_row {cs : List Nat} {r : List Int} {a j : Nat} (hj : j < r.length) (h : r[j].toNat < cs.length) : keyK a ((rowK cs r).take (j + 1)) = keyK a ((rowK cs r).take j) ++ [32] ++ Lib.decDigits cs[r[j].toNat] := by
 rw [keyK_step (by rw [rowK_length]; exact hj), rowK_get hj h]
def beginF (d : DFA) : List Nat := (List.range d.next.length).map fun s => if d.final.getD s false ≠ d.final.getD 0 false then 1 else 0
def itF (d : DFA) : Nat → List Nat
 | 0 => beginF d
 | i + 1 => refineF d (itF d i)
theorem itF_length (d : DFA) (i : Nat) : (itF d i).length = d.next.length := by
 cases i <;> simp [itF, beginF, refineF, keysD]
theorem refineF_lt {d : DFA} {cs : List Nat} {x : Nat} (h : x ∈ refineF d cs) : x < d.next.length := by
 obtain ⟨k, hk, rfl⟩ := List.mem_map.1 h
 have h1 := ix_lt (mem_dd.2 hk)
 have h2 := dd_length (keysD d cs)
 have h3 : (keysD d cs).length = d.next.length := by simp [keysD]
 omega
theorem itF_lt {d : DFA} (hn : d.next.length < 10000) (i : Nat) : ∀ x ∈ itF d i, x < 10000 := by
 cases i with
 | zero =>
  intro x hx
  obtain ⟨s, _, rfl⟩ := List.mem_map.1 hx
  split <;> omega
 | succ i => intro x hx; have := refineF_lt hx; omega
theorem itF_stable {d : DFA} {i : Nat} (h : refineF d (itF d i) = itF d i) : ∀ m, i ≤ m → itF d m = itF d i := by
 intro m hm
 induction hm with
 | refl => rfl
 | step _ ih => rw [itF, ih, h]
def exN (tr : List UInt8 → Nat → List UInt8) (L : Nat) (start : List UInt8) : Nat → List (List UInt8)
 | 0 => [start]
 | s + 1 => ((List.range L).map (tr ((exN tr L start s).getD s []))).foldl add (exN tr L start s)
def exRow (tr : List UInt8 → Nat → List UInt8) (L : Nat) (ks : List (List UInt8)) (s : Nat) : List Int :=
 (List.range L).map fun x => ((ix (tr (ks.getD s []) x) ks : Nat) : Int)
theorem foldl_add_snoc {α : Type} [DecidableEq α] (f : Nat → α) (ks : List α) (x : Nat) : ((List.range (x + 1)).map f).foldl add ks = add (((List.range x).map f).foldl add ks) (f x) := by
 rw [List.range_succ, List.map_append, List.foldl_append]; rfl
theorem mem_foldl_add {α : Type} [DecidableEq α] {y : α} : ∀ (l ks : List α), y ∈ l.foldl add ks ↔ y ∈ ks ∨ y ∈ l
 | [], ks => by simp
 | k :: l, ks => by rw [List.foldl_cons, mem_foldl_add l, mem_add, List.mem_cons, or_assoc]
theorem prefix_getD {ks ms : List (List UInt8)} (h : ks <+: ms) {s : Nat} (hs : s < ks.length) : ms.getD s [] = ks.getD s [] := by
 obtain ⟨t, rfl⟩ := h
 rw [List.getD_eq_getElem?_getD, List.getD_eq_getElem?_getD, List.getElem?_append_left hs]
structure ExOk (tr : List UInt8 → Nat → List UInt8) (L : Nat) (ks : List (List UInt8)) (s : Nat) (rs : List (List Int)) : Prop where
 len : rs.length = s
 le : s ≤ ks.length
 row : ∀ i, i < s → rs[i]? = some (exRow tr L ks i)
 mem : ∀ i, i < s → ∀ x, x < L → tr (ks.getD i []) x ∈ ks
theorem exRow_prefix {tr : List UInt8 → Nat → List UInt8} {L : Nat} {ks ms : List (List UInt8)} (h : ks <+: ms) {s : Nat} (hs : s < ks.length) (hm : ∀ x, x < L → tr (ks.getD s []) x ∈ ks) : exRow tr L ms s = exRow tr L ks s := by
 unfold exRow
 apply List.map_congr_left
 intro x hx
 rw [prefix_getD h hs, ix_prefix h (hm x (List.mem_range.1 hx))]
theorem ExOk.snoc {tr : List UInt8 → Nat → List UInt8} {L : Nat} {ks ms : List (List UInt8)} {s : Nat} {rs : List (List Int)} {ys : List Int} (h : ExOk tr L ks s rs) (hp : ks <+: ms) (hs : s < ks.length) (hy : ys = exRow tr L ms s) (hm : ∀ x, x < L → tr (ms.getD s []) x ∈ ms) : ExOk tr L ms (s + 1) (rs ++ [ys]) := by
 have hle := hp.length_le
 refine ⟨by simp [h.len], by omega, fun i hi => ?_, fun i hi => ?_⟩
 ·by_cases e : i = s
  ·subst e; rw [List.getElem?_append_right (by rw [h.len]; exact Nat.le_refl _), h.len, hy]; simp
  ·rw [List.getElem?_append_left (by rw [h.len]; omega), h.row i (by omega), exRow_prefix hp (by omega) (h.mem i (by omega))]
 ·by_cases e : i = s
  ·subst e; exact hm
  ·intro x hx
   rw [prefix_getD hp (by omega)]
   exact hp.subset (h.mem i (by omega) x hx)
def undec (l : List UInt8) : Nat := l.foldl (fun a b => a * 10 + (b.toNat - 48)) 0
theorem undec_dec (u : Nat) : undec (Lib.decDigits u) = u := by
 induction u using Nat.strongRecOn with
 | _ u ih =>
  by_cases h : u < 10
  ·rw [dec_small h]
   show 0 * 10 + ((UInt8.ofNat (48 + u)).toNat - 48) = u
   rw [digit_toNat h]; omega
  ·rw [dec_big h, undec, List.foldl_append]
   have := ih (u / 10) (by omega)
   rw [undec] at this
   rw [this]
   show u / 10 * 10 + ((UInt8.ofNat (48 + u % 10)).toNat - 48) = u
   rw [digit_toNat (by omega)]; omega
def toN (d : DFA) (o x : Nat) : Nat := ((d.next.getD o []).getD x 0).toNat
def trD (d : DFA) (k : List UInt8) (x : Nat) : List UInt8 := Lib.decDigits (toN d (undec k) x)
def sucs (d : DFA) (o : Nat) : List Nat := (List.range (2 ^ d.vars.toNat)).map (toN d o)
def bfsN (d : DFA) : Nat → List Nat
 | 0 => [d.start.toNat]
 | s + 1 => if s < (bfsN d s).length then (sucs d ((bfsN d s).getD s 0)).foldl add (bfsN d s) else bfsN d s
def order (d : DFA) : List Nat := bfsN d d.next.length
def renum (d : DFA) : DFA where
 vars := d.vars
 start := 0
 next := (order d).map fun o => (sucs d o).map fun t => ((ix t (order d) : Nat) : Int)
 final := (order d).map fun o => d.final.getD o false
theorem Val.toN_lt {d : DFA} (hv : Val d) {o x : Nat} (ho : o < d.next.length) (hx : x < 2 ^ d.vars.toNat) : toN d o x < d.next.length ∧ ∃ h : o < d.next.length, ∃ hx' : x < d.next[o].length, d.next[o][x] = (toN d o x : Int) := by
 have hl : d.next[o].length = 2 ^ d.vars.toNat := hv.len _ (List.getElem_mem ho)
 have hx' : x < d.next[o].length := by omega
 have h1 := hv.ok _ (List.getElem_mem ho) _ (List.getElem_mem hx')
 have e : toN d o x = d.next[o][x].toNat := by simp [toN, ho, hx']
 exact ⟨by omega, ho, hx', by omega⟩
theorem nodup_bound : ∀ {n : Nat} {l : List Nat}, l.Nodup → (∀ x ∈ l, x < n) → l.length ≤ n
 | 0, l, _, hb => by
  cases l with
  | nil => simp
  | cons a l => exact absurd (hb a (by simp)) (by omega)
 | n + 1, l, h, hb => by
  by_cases hn : n ∈ l
  ·have h1 := nodup_bound (n := n) (h.erase n) fun x hx => by
    have := (List.Nodup.mem_erase_iff h).1 hx
    have := hb x this.2
    omega
   rw [List.length_erase_of_mem hn] at h1
   omega
  ·have := nodup_bound (n := n) h fun x hx => by
    have := hb x hx
    have : x ≠ n := fun e => hn (e ▸ hx)
    omega
   omega
theorem map_add {α β : Type} [DecidableEq α] [DecidableEq β] {f : α → β} (hf : ∀ a b, f a = f b → a = b) (ks : List α) (k : α) : (add ks k).map f = add (ks.map f) (f k) := by
 unfold add
 by_cases h : k ∈ ks
 ·rw [if_pos h, if_pos (List.mem_map_of_mem h)]
 ·rw [if_neg h, if_neg (fun hh => by obtain ⟨a, ha, e⟩ := List.mem_map.1 hh; exact h (hf _ _ e ▸ ha))]
  simp
theorem map_foldl_add {α β : Type} [DecidableEq α] [DecidableEq β] {f : α → β} (hf : ∀ a b, f a = f b → a = b) : ∀ (l ks : List α), (l.foldl add ks).map f = (l.map f).foldl add (ks.map f)
 | [], ks => rfl
 | k :: l, ks => by rw [List.foldl_cons, map_foldl_add hf l, map_add hf, List.map_cons, List.foldl_cons]
theorem exN_bfs (d : DFA) : ∀ (N : Nat), (∀ i, i < N → i < (exN (trD d) (2 ^ d.vars.toNat) (Lib.decDigits d.start.toNat) i).length) →
  exN (trD d) (2 ^ d.vars.toNat) (Lib.decDigits d.start.toNat) N = (bfsN d N).map Lib.decDigits
 | 0, _ => rfl
 | N + 1, h => by
  have ih := exN_bfs d N fun i hi => h i (by omega)
  have hN := h N (by omega)
  rw [ih, List.length_map] at hN
  rw [exN, ih, bfsN, if_pos hN, map_foldl_add dec_inj]
  congr 1
  rw [sucs, List.map_map]
  apply List.map_congr_left
  intro x _
  have e : ((bfsN d N).map Lib.decDigits).getD N [] = Lib.decDigits ((bfsN d N).getD N 0) := by
   simp [hN]
  rw [e, trD, undec_dec]; rfl
theorem bfsN_stable {d : DFA} {N : Nat} (h : (bfsN d N).length = N) : ∀ m, N ≤ m → bfsN d m = bfsN d N := by
 intro m hm
 induction hm with
 | refl => rfl
 | @step m hm ih =>
  have hm' : N ≤ m := hm
  rw [bfsN, ih, if_neg (by omega)]
theorem order_eq {d : DFA} {N : Nat} (h : (bfsN d N).length = N) (hn : N ≤ d.next.length) : order d = bfsN d N := bfsN_stable h _ hn
theorem dec_ix (os : List Nat) (t : Nat) : ix (Lib.decDigits t) (os.map Lib.decDigits) = ix t os := by
 induction os with
 | nil => rfl
 | cons o os ih =>
  simp only [List.map_cons, ix, ih]
  by_cases e : t = o
  ·simp [e]
  ·rw [if_neg e, if_neg (fun h => e (dec_inj _ _ h))]
theorem map_dec_inj : ∀ {a b : List Nat}, a.map Lib.decDigits = b.map Lib.decDigits → a = b
 | [], [], _ => rfl
 | [], _ :: _, h => by simp at h
 | _ :: _, [], h => by simp at h
 | x :: a, y :: b, h => by
  simp only [List.map_cons, List.cons.injEq] at h
  rw [dec_inj x y h.1, map_dec_inj h.2]
theorem ren_order {d : DFA} {os : List Nat} {N : Nat} (hen : ∀ i, i < N → i < (exN (trD d) (2 ^ d.vars.toNat) (Lib.decDigits d.start.toNat) i).length)
  (hks : exN (trD d) (2 ^ d.vars.toNat) (Lib.decDigits d.start.toNat) N = os.map Lib.decDigits) (hlen : (exN (trD d) (2 ^ d.vars.toNat) (Lib.decDigits d.start.toNat) N).length = N) (hle : os.length ≤ d.next.length) : os = order d ∧ os.length = N := by
 have h1 : os.length = N := by rw [← hlen, hks, List.length_map]
 have h2 : os = bfsN d N := map_dec_inj (by rw [← hks, exN_bfs d N hen])
 exact ⟨by rw [order_eq (N := N) (by rw [← h2]; exact h1) (by omega)]; exact h2, h1⟩
theorem ren_next {d : DFA} {os : List Nat} {N : Nat} {rs : List (List Int)} (hks : exN (trD d) (2 ^ d.vars.toNat) (Lib.decDigits d.start.toNat) N = os.map Lib.decDigits) (hE : ExOk (trD d) (2 ^ d.vars.toNat) (exN (trD d) (2 ^ d.vars.toNat) (Lib.decDigits d.start.toNat) N) N rs) (ho : os = order d) (hN : os.length = N) : rs = (renum d).next := by
 apply List.ext_getElem?
 intro i
 by_cases hi : i < N
 ·rw [hE.row i hi, hks]
  have hi' : i < os.length := by omega
  have e : (os.map Lib.decDigits).getD i [] = Lib.decDigits os[i] := by simp [hi']
  simp only [renum, List.getElem?_map, ← ho, List.getElem?_eq_getElem hi', Option.map_some, exRow, e, trD, undec_dec, sucs, List.map_map]
  refine congrArg some (List.map_congr_left fun x _ => ?_)
  simp only [Function.comp_def, dec_ix]
 ·rw [List.getElem?_eq_none (by rw [hE.len]; omega), List.getElem?_eq_none (by simp [renum, ← ho]; omega)]
def quoN (d : DFA) (cs : List Nat) : Nat → List (List Int) × List Bool
 | 0 => ([], [])
 | k + 1 => if cs.getD k 0 < (quoN d cs k).1.length then quoN d cs k else
   ((quoN d cs k).1 ++ [(rowK cs (d.next.getD k [])).map fun c : Nat => (c : Int)], (quoN d cs k).2 ++ [d.final.getD k false])
def quo (d : DFA) (cs : List Nat) : DFA where
 vars := d.vars
 start := ((cs.getD d.start.toNat 0 : Nat) : Int)
 next := (quoN d cs d.next.length).1
 final := (quoN d cs d.next.length).2
theorem quoN_len (d : DFA) (cs : List Nat) : ∀ k, (quoN d cs k).1.length = (quoN d cs k).2.length ∧ (quoN d cs k).1.length ≤ k
 | 0 => by simp [quoN]
 | k + 1 => by
  have ih := quoN_len d cs k
  rw [quoN]
  split
  ·exact ⟨ih.1, by omega⟩
  ·simp; omega
end Go.Lx


namespace Go.Lx
theorem snocInd {α : Type} {p : List α → Prop} (h0 : p []) (h1 : ∀ l x, p l → p (l ++ [x])) : ∀ l, p l := fun l => by
 rw [← List.reverse_reverse l]
 generalize l.reverse = m
 induction m with
 | nil => exact h0
 | cons a m ih => rw [List.reverse_cons]; exact h1 _ _ ih
abbrev letN (d : DFA) : Nat := 2 ^ d.vars.toNat
def runN (d : DFA) (s : Nat) (w : List Nat) : Nat := w.foldl (toN d) s
def finN (d : DFA) (s : Nat) : Bool := d.final.getD s false
def dst (d : DFA) (s t : Nat) (w : List Nat) : Prop := finN d (runN d s w) ≠ finN d (runN d t w)
def Wd (d : DFA) (w : List Nat) : Prop := ∀ x ∈ w, x < letN d
def code (w : List Nat) : Nat := w.foldl (fun a x => a * 65 + (x + 1)) 0
theorem code_snoc (w : List Nat) (x : Nat) : code (w ++ [x]) = code w * 65 + (x + 1) := by simp [code]
theorem runN_snoc (d : DFA) (s : Nat) (w : List Nat) (x : Nat) : runN d s (w ++ [x]) = toN d (runN d s w) x := by simp [runN]
theorem code_inj : ∀ (w u : List Nat), (∀ x ∈ w, x < 64) → (∀ x ∈ u, x < 64) → code w = code u → w = u := by
 refine snocInd ?_ ?_
 ·refine snocInd (fun _ _ _ => rfl) ?_
  intro u y _ _ _ h
  rw [code_snoc] at h
  exact absurd h (by simp [code])
 ·intro w x ih
  refine snocInd ?_ ?_
  ·intro _ _ h
   rw [code_snoc] at h
   exact absurd h (by simp [code])
  ·intro u y _ hw hu h
   rw [code_snoc, code_snoc] at h
   have hx := hw x (by simp)
   have hy := hu y (by simp)
   have e : x = y := by omega
   have := ih u (fun z hz => hw z (by simp [hz])) (fun z hz => hu z (by simp [hz])) (by omega)
   rw [this, e]
theorem code_len : ∀ (w u : List Nat), (∀ x ∈ w, x < 64) → (∀ x ∈ u, x < 64) → code w ≤ code u → w.length ≤ u.length := by
 refine snocInd (fun u _ _ _ => by simp) ?_
 intro w x ih
 refine snocInd ?_ ?_
 ·intro _ _ h
  rw [code_snoc] at h
  simp [code] at h
 ·intro u y _ hw hu h
  rw [code_snoc, code_snoc] at h
  have hx := hw x (by simp)
  have hy := hu y (by simp)
  have := ih u (fun z hz => hw z (by simp [hz])) (fun z hz => hu z (by simp [hz])) (by omega)
  simpa using this
structure IsLeast (d : DFA) (s t : Nat) (w : List Nat) : Prop where
 wd : Wd d w
 dst : dst d s t w
 le : ∀ u, Wd d u → Lx.dst d s t u → code w ≤ code u
def Tell (d : DFA) (s t : Nat) : Option (List Nat) → Prop
 | some w => IsLeast d s t w
 | none => ∀ u, Wd d u → ¬ dst d s t u
theorem Val.wd64 {d : DFA} (hv : Val d) {w : List Nat} (h : Wd d w) : ∀ x ∈ w, x < 64 := fun x hx => by
 have := h x hx; have := hv.width; unfold letN at *; omega
abbrev Stp := (Nat × Nat) × List Nat
def suc2 (d : DFA) (p : Nat × Nat) (x : Nat) : Nat × Nat := (toN d p.1 x, toN d p.2 x)
def pushS (d : DFA) (q : Stp) (a : List Stp) (x : Nat) : List Stp := if suc2 d q.1 x ∈ a.map Prod.fst then a else a ++ [(suc2 d q.1 x, q.2 ++ [x])]
def pushN (d : DFA) (q : Stp) (a : List Stp) : Nat → List Stp
 | 0 => a
 | x + 1 => pushS d q (pushN d q a x) x
def bq (d : DFA) (s t : Nat) : Nat → List Stp
 | 0 => [((s, t), [])]
 | i + 1 => pushN d ((bq d s t i).getD i ((0, 0), [])) (bq d s t i) (letN d)
structure BfsI (d : DFA) (s t i : Nat) (A : List Stp) : Prop where
 run : ∀ q ∈ A, Wd d q.2 ∧ q.1 = (runN d s q.2, runN d t q.2)
 mono : ∀ (j k : Nat) (qj qk : Stp), j < k → A[j]? = some qj → A[k]? = some qk → code qj.2 < code qk.2
 nd : (A.map Prod.fst).Nodup
 suc : ∀ j q, j < i → A[j]? = some q → ∀ x, x < letN d → ∃ q' ∈ A, q'.1 = suc2 d q.1 x ∧ code q'.2 ≤ code q.2 * 65 + (x + 1)
 top : ∀ q, A[i]? = some q → ∀ q' ∈ A, code q'.2 < code q.2 * 65 + 1
 first : ∃ q, A[0]? = some q ∧ q.1 = (s, t) ∧ q.2 = []
theorem BfsI.zero (d : DFA) (s t : Nat) : BfsI d s t 0 (bq d s t 0) := by
 refine ⟨?_, ?_, by simp [bq], fun j q h => absurd h (by omega), ?_, ⟨_, rfl, rfl, rfl⟩⟩
 ·intro q hq
  simp only [bq, List.mem_singleton] at hq
  subst hq
  exact ⟨fun x hx => by simp at hx, rfl⟩
 ·intro j k qj qk hjk _ hk
  simp only [bq] at hk
  have : k = 0 := by
   cases k with
   | zero => rfl
   | succ k => simp at hk
  omega
 ·intro q hq q' hq'
  simp only [bq, List.mem_singleton] at hq'
  subst hq'
  simp [code]
structure BfsM (d : DFA) (s t i : Nat) (q : Stp) (x : Nat) (A : List Stp) : Prop where
 run : ∀ q ∈ A, Wd d q.2 ∧ q.1 = (runN d s q.2, runN d t q.2)
 mono : ∀ (j k : Nat) (qj qk : Stp), j < k → A[j]? = some qj → A[k]? = some qk → code qj.2 < code qk.2
 nd : (A.map Prod.fst).Nodup
 suc : ∀ j q, j < i → A[j]? = some q → ∀ x, x < letN d → ∃ q' ∈ A, q'.1 = suc2 d q.1 x ∧ code q'.2 ≤ code q.2 * 65 + (x + 1)
 suci : ∀ y, y < x → ∃ q' ∈ A, q'.1 = suc2 d q.1 y ∧ code q'.2 ≤ code q.2 * 65 + (y + 1)
 top : ∀ q' ∈ A, code q'.2 < code q.2 * 65 + (x + 1)
 at_ : A[i]? = some q
 first : ∃ q, A[0]? = some q ∧ q.1 = (s, t) ∧ q.2 = []
theorem BfsM.step {d : DFA} {s t i : Nat} {q : Stp} {x : Nat} {A : List Stp} (h : BfsM d s t i q x A) (hx : x < letN d) : BfsM d s t i q (x + 1) (pushS d q A x) := by
 have hq := List.mem_of_getElem? h.at_
 unfold pushS
 split
 ·rename_i hin
  obtain ⟨q', hq', e⟩ := List.mem_map.1 hin
  refine ⟨h.run, h.mono, h.nd, h.suc, fun y hy => ?_, fun q' hq' => by have := h.top q' hq'; omega, h.at_, h.first⟩
  by_cases ey : y = x
  ·subst ey; exact ⟨q', hq', e, by have := h.top q' hq'; omega⟩
  ·exact h.suci y (by omega)
 ·rename_i hout
  have hil : i < A.length := by have := List.getElem?_eq_some_iff.1 h.at_; exact this.1
  refine ⟨?_, ?_, ?_, ?_, ?_, ?_, ?_, ?_⟩
  ·intro p hp
   rcases List.mem_append.1 hp with hp | hp
   ·exact h.run p hp
   ·simp only [List.mem_singleton] at hp
    subst hp
    obtain ⟨h1, h2⟩ := h.run q hq
    refine ⟨?_, ?_⟩
    ·intro y hy
     rcases List.mem_append.1 hy with hy | hy
     ·exact h1 y hy
     ·simp only [List.mem_singleton] at hy; subst hy; exact hx
    ·rw [runN_snoc, runN_snoc]; simp only [suc2, h2]
  ·intro j k qj qk hjk hj hk
   by_cases ek : k < A.length
   ·rw [List.getElem?_append_left (by omega)] at hj
    rw [List.getElem?_append_left ek] at hk
    exact h.mono j k qj qk hjk hj hk
   ·rw [List.getElem?_append_right (by omega)] at hk
    have ek0 : k - A.length = 0 := by
     cases e : k - A.length with
     | zero => rfl
     | succ m => rw [e] at hk; simp at hk
    rw [ek0] at hk
    simp at hk
    subst hk
    rw [List.getElem?_append_left (by omega)] at hj
    show code qj.2 < code (q.2 ++ [x])
    rw [code_snoc]
    exact h.top qj (List.mem_of_getElem? hj)
  ·rw [List.map_append, List.nodup_append]
   refine ⟨h.nd, by simp, fun a ha b hb e => ?_⟩
   simp at hb; subst hb; subst e; exact hout ha
  ·intro j qj hj hq x hx
   rw [List.getElem?_append_left (by omega)] at hq
   obtain ⟨q', h1, h2⟩ := h.suc j qj hj hq x hx
   exact ⟨q', List.mem_append_left _ h1, h2⟩
  ·intro y hy
   by_cases ey : y = x
   ·subst ey; exact ⟨_, List.mem_append_right _ (List.mem_singleton.2 rfl), rfl, by rw [code_snoc]; exact Nat.le_refl _⟩
   ·obtain ⟨q', h1, h2⟩ := h.suci y (by omega)
    exact ⟨q', List.mem_append_left _ h1, h2⟩
  ·intro p hp
   rcases List.mem_append.1 hp with hp | hp
   ·have := h.top p hp; omega
   ·simp only [List.mem_singleton] at hp
    subst hp
    rw [code_snoc]; omega
  ·rw [List.getElem?_append_left hil]; exact h.at_
  ·obtain ⟨q0, h1, h2⟩ := h.first
   exact ⟨q0, by rw [List.getElem?_append_left (by omega)]; exact h1, h2⟩
theorem BfsI.mid {d : DFA} {s t i : Nat} {q : Stp} {A : List Stp} (h : BfsI d s t i A) (hq : A[i]? = some q) : ∀ x, x ≤ letN d → BfsM d s t i q x (pushN d q A x)
 | 0, _ => ⟨h.run, h.mono, h.nd, h.suc, fun y hy => absurd hy (by omega), h.top q hq, hq, h.first⟩
 | x + 1, hx => (BfsI.mid h hq x (by omega)).step (by omega)
theorem BfsI.step {d : DFA} (hv : Val d) {s t i : Nat} {q : Stp} (h : BfsI d s t i (bq d s t i)) (hq : (bq d s t i)[i]? = some q) : BfsI d s t (i + 1) (bq d s t (i + 1)) := by
 have hm := h.mid hq (letN d) (Nat.le_refl _)
 have e : bq d s t (i + 1) = pushN d q (bq d s t i) (letN d) := by
  rw [bq, List.getD_eq_getElem?_getD, hq]; rfl
 rw [e]
 have hw := hv.width
 refine ⟨hm.run, hm.mono, hm.nd, ?_, ?_, hm.first⟩
 ·intro j qj hj hqj x hx
  by_cases ej : j = i
  ·subst ej
   rw [hm.at_] at hqj
   cases hqj
   exact hm.suci x hx
  ·exact hm.suc j qj (by omega) hqj x hx
 ·intro q2 hq2 q' hq'
  have h1 := hm.mono i (i + 1) q q2 (by omega) hm.at_ hq2
  have h2 := hm.top q' hq'
  have h3 : letN d ≤ 64 := hw
  omega
end Go.Lx


namespace Go.Lx
open Go.RowKit
structure QRec where
 p : Nat × Nat
 b : Option Addr
 c : Nat
 xs : List Nat
def QRec.cells (q : QRec) : List Value := [.int .i64 ((q.p.1 : Nat) : Int), .int .i64 ((q.p.2 : Nat) : Int), .slice q.b q.xs.length q.c]
def QRec.itm (E : TypeId) (q : QRec) : Item := rowI q.b q.c E 1 (byts q.xs)
theorem runN_lt {d : DFA} (hv : Val d) {s : Nat} (hs : s < d.next.length) : ∀ w, Wd d w → runN d s w < d.next.length := by
 refine snocInd (fun _ => hs) ?_
 intro w x ih hw
 rw [runN_snoc]
 exact (hv.toN_lt (ih fun y hy => hw y (by simp [hy])) (hw x (by simp))).1
end Go.Lx
namespace Go.Lx
open Go.RowKit
end Go.Lx


namespace Go.Lx
section
variable {α β : Type} [DecidableEq α] [DecidableEq β]
def nrm (l : List α) : List Nat := l.map fun k => ix k (dd l)
theorem nrm_length (l : List α) : (nrm l).length = l.length := List.length_map _
theorem nrm_get {l : List α} {i : Nat} {a : α} (h : l[i]? = some a) : (nrm l)[i]? = some (ix a (dd l)) := by
 rw [nrm, List.getElem?_map, h]; rfl
theorem nrm_inj {l : List α} {i j : Nat} {a b : α} (hi : l[i]? = some a) (hj : l[j]? = some b) : (nrm l)[i]? = (nrm l)[j]? ↔ a = b := by
 rw [nrm_get hi, nrm_get hj]
 refine ⟨fun h => ix_inj (mem_dd.2 (List.mem_of_getElem? hi)) (mem_dd.2 (List.mem_of_getElem? hj)) (Option.some.inj h), fun h => h ▸ rfl⟩
theorem dd_mem_snoc {l : List α} {a : α} (h : a ∈ l) : dd (l ++ [a]) = dd l := by
 rw [dd_snoc, add, if_pos (mem_dd.2 h)]
theorem dd_new_snoc {l : List α} {a : α} (h : a ∉ l) : dd (l ++ [a]) = dd l ++ [a] := by
 rw [dd_snoc, add, if_neg (fun hh => h (mem_dd.1 hh))]
theorem nrm_pairs : ∀ zs : List (α × β), (∀ p ∈ zs, ∀ q ∈ zs, p.1 = q.1 ↔ p.2 = q.2) →
  (dd (zs.map Prod.fst)).length = (dd (zs.map Prod.snd)).length ∧ ∀ p ∈ zs, ix p.1 (dd (zs.map Prod.fst)) = ix p.2 (dd (zs.map Prod.snd)) := by
 refine snocInd (fun _ => ⟨rfl, fun p hp => by simp at hp⟩) ?_
 intro zs z ih h
 obtain ⟨h1, h2⟩ := ih fun p hp q hq => h p (List.mem_append_left _ hp) q (List.mem_append_left _ hq)
 have hz : z ∈ zs ++ [z] := by simp
 have hmem : z.1 ∈ zs.map Prod.fst ↔ z.2 ∈ zs.map Prod.snd := by
  constructor
  ·intro hm
   obtain ⟨p, hp, e⟩ := List.mem_map.1 hm
   exact List.mem_map.2 ⟨p, hp, ((h p (List.mem_append_left _ hp) z hz).1 e)⟩
  ·intro hm
   obtain ⟨p, hp, e⟩ := List.mem_map.1 hm
   exact List.mem_map.2 ⟨p, hp, ((h p (List.mem_append_left _ hp) z hz).2 e)⟩
 simp only [List.map_append, List.map_cons, List.map_nil]
 by_cases hm : z.1 ∈ zs.map Prod.fst
 ·rw [dd_mem_snoc hm, dd_mem_snoc (hmem.1 hm)]
  refine ⟨h1, fun p hp => ?_⟩
  rcases List.mem_append.1 hp with hp | hp
  ·exact h2 p hp
  ·simp only [List.mem_singleton] at hp
   subst hp
   obtain ⟨q, hq, e⟩ := List.mem_map.1 hm
   have e2 := (h q (List.mem_append_left _ hq) p hz).1 e
   rw [← e, ← e2]; exact h2 q hq
 ·have hm2 : z.2 ∉ zs.map Prod.snd := fun hh => hm (hmem.2 hh)
  rw [dd_new_snoc hm, dd_new_snoc hm2]
  refine ⟨by simp [h1], fun p hp => ?_⟩
  rcases List.mem_append.1 hp with hp | hp
  ·rw [ix_append_left (mem_dd.2 (List.mem_map_of_mem hp)), ix_append_left (mem_dd.2 (List.mem_map_of_mem hp))]
   exact h2 p hp
  ·simp only [List.mem_singleton] at hp
   subst hp
   rw [ix_append_right (fun hh => hm (mem_dd.1 hh)), ix_append_right (fun hh => hm2 (mem_dd.1 hh)), h1]
   simp [ix]
theorem dd_finer : ∀ zs : List (α × β), (∀ p ∈ zs, ∀ q ∈ zs, p.1 = q.1 → p.2 = q.2) →
  (dd (zs.map Prod.snd)).length ≤ (dd (zs.map Prod.fst)).length ∧ ((dd (zs.map Prod.snd)).length = (dd (zs.map Prod.fst)).length → ∀ p ∈ zs, ∀ q ∈ zs, p.2 = q.2 → p.1 = q.1) := by
 refine snocInd (fun _ => ⟨Nat.le_refl _, fun _ p hp => by simp at hp⟩) ?_
 intro zs z ih h
 obtain ⟨h1, h2⟩ := ih fun p hp q hq => h p (List.mem_append_left _ hp) q (List.mem_append_left _ hq)
 have hz : z ∈ zs ++ [z] := by simp
 simp only [List.map_append, List.map_cons, List.map_nil]
 by_cases hm : z.1 ∈ zs.map Prod.fst
 ·obtain ⟨q, hq, e⟩ := List.mem_map.1 hm
  have e2 := h q (List.mem_append_left _ hq) z hz e
  have hm2 : z.2 ∈ zs.map Prod.snd := List.mem_map.2 ⟨q, hq, e2⟩
  rw [dd_mem_snoc hm, dd_mem_snoc hm2]
  refine ⟨h1, fun he p hp p' hp' ee => ?_⟩
  have h2' := h2 he
  have lift : ∀ p ∈ zs ++ [z], ∃ p0 ∈ zs, p0.1 = p.1 ∧ p0.2 = p.2 := fun p hp => by
   rcases List.mem_append.1 hp with hp | hp
   ·exact ⟨p, hp, rfl, rfl⟩
   ·simp only [List.mem_singleton] at hp; subst hp; exact ⟨q, hq, e, e2⟩
  obtain ⟨a, ha, a1, a2⟩ := lift p hp
  obtain ⟨b, hb, b1, b2⟩ := lift p' hp'
  rw [← a1, ← b1]; exact h2' a ha b hb (by rw [a2, b2, ee])
 ·rw [dd_new_snoc hm]
  by_cases hm2 : z.2 ∈ zs.map Prod.snd
  ·rw [dd_mem_snoc hm2]
   refine ⟨by simp; omega, fun he => ?_⟩
   simp at he; omega
  ·rw [dd_new_snoc hm2]
   refine ⟨by simp; omega, fun he p hp p' hp' ee => ?_⟩
   have h2' := h2 (by simpa using he)
   rcases List.mem_append.1 hp with gp | gp
   ·rcases List.mem_append.1 hp' with gp' | gp'
    ·exact h2' p gp p' gp' ee
    ·have e := List.mem_singleton.1 gp'
     exact (hm2 (List.mem_map.2 ⟨p, gp, by rw [ee, e]⟩)).elim
   ·have e := List.mem_singleton.1 gp
    rcases List.mem_append.1 hp' with gp' | gp'
    ·exact (hm2 (List.mem_map.2 ⟨p', gp', by rw [← ee, e]⟩)).elim
    ·rw [e, List.mem_singleton.1 gp']
theorem zip_ends : ∀ {l : List α} {m : List β}, l.length = m.length → (l.zip m).map Prod.fst = l ∧ (l.zip m).map Prod.snd = m
 | [], [], _ => ⟨rfl, rfl⟩
 | a :: l, b :: m, h => by
  obtain ⟨h1, h2⟩ := zip_ends (l := l) (m := m) (by simpa using h)
  simp [h1, h2]
theorem zip_get {l : List α} {m : List β} (h : l.length = m.length) {p : α × β} (hp : p ∈ l.zip m) : ∃ i : Nat, l[i]? = some p.1 ∧ m[i]? = some p.2 := by
 obtain ⟨i, hi⟩ := List.getElem?_of_mem hp
 refine ⟨i, ?_, ?_⟩
 ·have := congrArg (Option.map Prod.fst) hi
  rw [← List.getElem?_map, (zip_ends h).1] at this; simpa using this
 ·have := congrArg (Option.map Prod.snd) hi
  rw [← List.getElem?_map, (zip_ends h).2] at this; simpa using this
theorem nrm_congr {l : List α} {m : List β} (hl : l.length = m.length) (h : ∀ (i j : Nat) (a b : α) (a' b' : β), l[i]? = some a → l[j]? = some b → m[i]? = some a' → m[j]? = some b' → (a = b ↔ a' = b')) : nrm l = nrm m ∧ (dd l).length = (dd m).length := by
 have h0 := nrm_pairs (l.zip m) fun p hp q hq => by
  obtain ⟨i, a1, a2⟩ := zip_get hl hp
  obtain ⟨j, b1, b2⟩ := zip_get hl hq
  exact h i j _ _ _ _ a1 b1 a2 b2
 rw [(zip_ends hl).1, (zip_ends hl).2] at h0
 refine ⟨?_, h0.1⟩
 apply List.ext_getElem?
 intro i
 by_cases hi : i < l.length
 ·have hi2 : i < m.length := by omega
  rw [nrm_get (List.getElem?_eq_getElem hi), nrm_get (List.getElem?_eq_getElem hi2)]
  have : (l[i], m[i]) ∈ l.zip m := by
   apply List.mem_of_getElem? (i := i)
   rw [List.getElem?_zip_eq_some]
   exact ⟨List.getElem?_eq_getElem hi, List.getElem?_eq_getElem hi2⟩
  exact congrArg some (h0.2 _ this)
 ·rw [List.getElem?_eq_none (by rw [nrm_length]; omega), List.getElem?_eq_none (by rw [nrm_length]; omega)]
end
def dif (d : DFA) : Nat → Nat → Nat → Bool
 | 0, s, t => finN d s != finN d t
 | k + 1, s, t => dif d k s t || (List.range (letN d)).any fun x => dif d k (toN d s x) (toN d t x)
theorem dif_iff (d : DFA) : ∀ k s t, dif d k s t = true ↔ ∃ u, Wd d u ∧ u.length ≤ k ∧ dst d s t u
 | 0, s, t => by
  simp only [dif, bne_iff_ne]
  constructor
  ·exact fun h => ⟨[], fun x hx => by simp at hx, Nat.le_refl _, h⟩
  ·rintro ⟨u, _, hl, h⟩
   have : u = [] := List.eq_nil_of_length_eq_zero (by omega)
   subst this; exact h
 | k + 1, s, t => by
  simp only [dif, Bool.or_eq_true, List.any_eq_true, List.mem_range, dif_iff d k]
  constructor
  ·rintro (⟨u, h1, h2, h3⟩ | ⟨x, hx, u, h1, h2, h3⟩)
   ·exact ⟨u, h1, by omega, h3⟩
   ·refine ⟨x :: u, fun y hy => ?_, by simp; omega, h3⟩
    rcases List.mem_cons.1 hy with rfl | hy
    ·exact hx
    ·exact h1 y hy
  ·rintro ⟨u, h1, h2, h3⟩
   cases u with
   | nil => exact .inl ⟨[], h1, by simp, h3⟩
   | cons x u => exact .inr ⟨x, h1 x (by simp), u, fun y hy => h1 y (by simp [hy]), by simpa using h2, h3⟩
theorem dif_self (d : DFA) (k s : Nat) : dif d k s s = false := by
 rw [Bool.eq_false_iff]
 intro h
 obtain ⟨u, _, _, h⟩ := (dif_iff d k s s).1 h
 exact h rfl
theorem toN_get {d : DFA} (hv : Val d) {s x : Nat} (hs : s < d.next.length) (hx : x < letN d) : toN d s x < d.next.length := (hv.toN_lt hs hx).1
theorem keyD_iff {d : DFA} (hv : Val d) {cs : List Nat} (hcl : cs.length = d.next.length) {s t : Nat} (hs : s < d.next.length) (ht : t < d.next.length) :
  keyD d cs s = keyD d cs t ↔ cs.getD s 0 = cs.getD t 0 ∧ ∀ x, x < letN d → cs.getD (toN d s x) 0 = cs.getD (toN d t x) 0 := by
 have hls : (d.next.getD s []).length = letN d := by simp [hs]; exact hv.len _ (List.getElem_mem hs)
 have hlt : (d.next.getD t []).length = letN d := by simp [ht]; exact hv.len _ (List.getElem_mem ht)
 have row : ∀ s, (d.next.getD s []).length = letN d → ∀ x, x < letN d → (rowK cs (d.next.getD s []))[x]? = some (cs.getD (toN d s x) 0) := by
  intro s hl x hx
  have hx' : x < (d.next.getD s []).length := by omega
  have e : (d.next.getD s []).getD x 0 = (d.next.getD s [])[x] := by rw [List.getD_eq_getElem?_getD, List.getElem?_eq_getElem hx']; rfl
  rw [rowK, List.getElem?_map, List.getElem?_eq_getElem hx', toN, e]
  rfl
 constructor
 ·intro h
  obtain ⟨h1, h2⟩ := keyK_inj h
  refine ⟨h1, fun x hx => ?_⟩
  have a := row s hls x hx
  rw [h2, row t hlt x hx] at a
  exact (Option.some.inj a).symm
 ·rintro ⟨h1, h2⟩
  unfold keyD
  rw [h1]
  congr 1
  apply List.ext_getElem?
  intro x
  by_cases hx : x < letN d
  ·rw [row s hls x hx, row t hlt x hx, h2 x hx]
  ·rw [List.getElem?_eq_none (by rw [rowK_length]; omega), List.getElem?_eq_none (by rw [rowK_length]; omega)]
theorem refineF_nrm (d : DFA) (cs : List Nat) : refineF d cs = nrm (keysD d cs) := rfl
theorem keysD_get {d : DFA} {cs : List Nat} {s : Nat} (hs : s < d.next.length) : (keysD d cs)[s]? = some (keyD d cs s) := by simp [keysD, hs]
theorem beginF_get {d : DFA} {s : Nat} (hs : s < d.next.length) : (beginF d)[s]? = some (if finN d s ≠ finN d 0 then 1 else 0) := by
 simp [beginF, hs, finN]
theorem getD_of {l : List Nat} {i a : Nat} (h : l[i]? = some a) : l.getD i 0 = a := by rw [List.getD_eq_getElem?_getD, h]; rfl
theorem itF_iff {d : DFA} (hv : Val d) : ∀ k s t, s < d.next.length → t < d.next.length → ((itF d k).getD s 0 = (itF d k).getD t 0 ↔ dif d k s t = false)
 | 0, s, t, hs, ht => by
  rw [itF, getD_of (beginF_get hs), getD_of (beginF_get ht), dif]
  cases finN d s <;> cases finN d t <;> cases finN d 0 <;> simp
 | k + 1, s, t, hs, ht => by
  have ih := itF_iff hv k
  rw [itF, refineF_nrm]
  have h1 := nrm_inj (keysD_get (cs := itF d k) hs) (keysD_get (cs := itF d k) ht)
  have e1 : (nrm (keysD d (itF d k))).getD s 0 = (nrm (keysD d (itF d k))).getD t 0 ↔ (nrm (keysD d (itF d k)))[s]? = (nrm (keysD d (itF d k)))[t]? := by
   rw [nrm_get (keysD_get hs), nrm_get (keysD_get ht), getD_of (nrm_get (keysD_get hs)), getD_of (nrm_get (keysD_get ht))]
   simp
  rw [e1, h1, keyD_iff hv (itF_length d k) hs ht, ih s t hs ht, dif, Bool.or_eq_false_iff]
  refine and_congr Iff.rfl ?_
  rw [List.any_eq_false]
  constructor
  ·intro h x hx
   have hx' := List.mem_range.1 hx
   rw [Bool.not_eq_true, ← ih _ _ (toN_get hv hs hx') (toN_get hv ht hx')]
   exact h x hx'
  ·intro h x hx
   rw [ih _ _ (toN_get hv hs hx) (toN_get hv ht hx), ← Bool.not_eq_true]
   exact h x (List.mem_range.2 hx)
end Go.Lx


namespace Go.Lx
section
variable {α : Type} [DecidableEq α]
theorem nrm_nrm (l : List α) : nrm (nrm l) = nrm l := by
 refine (nrm_congr (by rw [nrm_length]) ?_).1
 intro i j a b a' b' hi hj hi' hj'
 have := nrm_inj hi' hj'
 rw [hi, hj] at this
 simpa using this
def first (p : Nat → Bool) : Nat → Nat
 | 0 => 0
 | n + 1 => if first p n < n then first p n else if p n then n else n + 1
theorem first_le (p : Nat → Bool) : ∀ n, first p n ≤ n
 | 0 => Nat.le_refl _
 | n + 1 => by
  have := first_le p n
  rw [first]
  split
  ·omega
  ·split <;> omega
theorem first_spec (p : Nat → Bool) : ∀ n, (first p n < n → p (first p n) = true) ∧ ∀ t, t < first p n → p t = false
 | 0 => ⟨fun h => absurd h (by omega), fun t h => absurd h (by simp [first])⟩
 | n + 1 => by
  obtain ⟨h1, h2⟩ := first_spec p n
  have hle := first_le p n
  rw [first]
  by_cases h : first p n < n
  ·rw [if_pos h]; exact ⟨fun _ => h1 h, h2⟩
  ·have e : first p n = n := by omega
   rw [if_neg h]
   by_cases hp : p n = true
   ·rw [if_pos hp]; exact ⟨fun _ => hp, fun t ht => h2 t (by omega)⟩
   ·rw [if_neg hp]
    refine ⟨fun h => absurd h (by omega), fun t ht => ?_⟩
    by_cases et : t = n
    ·subst et; simpa using hp
    ·exact h2 t (by omega)
theorem first_eq {p : Nat → Bool} {n t : Nat} (hle : t ≤ n) (h1 : t < n → p t = true) (h2 : ∀ t', t' < t → p t' = false) : first p n = t := by
 obtain ⟨g1, g2⟩ := first_spec p n
 have hl := first_le p n
 rcases Nat.lt_trichotomy (first p n) t with h | h | h
 ·have := h2 _ h; rw [g1 (by omega)] at this; cases this
 ·exact h
 ·have := g2 _ h; rw [h1 (by omega)] at this; cases this
def labN (e : Nat → Nat → Bool) : Nat → List Nat × Nat
 | 0 => ([], 0)
 | s + 1 => if first (e s) s < s then ((labN e s).1 ++ [(labN e s).1.getD (first (e s) s) 0], (labN e s).2) else ((labN e s).1 ++ [(labN e s).2], (labN e s).2 + 1)
theorem labN_nrm {e : Nat → Nat → Bool} {l : List α} (he : ∀ (s t : Nat) (a b : α), l[s]? = some a → l[t]? = some b → (e s t = true ↔ a = b)) : ∀ s, s ≤ l.length → labN e s = (nrm (l.take s), (dd (l.take s)).length)
 | 0, _ => by simp [labN, nrm, dd]
 | s + 1, hs => by
  have hs' : s < l.length := by omega
  have ih := labN_nrm he s (by omega)
  have hg := List.getElem?_eq_getElem hs'
  obtain ⟨f1, f2⟩ := first_spec (e s) s
  rw [labN, ih, List.take_succ_eq_append_getElem hs']
  by_cases hf : first (e s) s < s
  ·have hfl : first (e s) s < l.length := by omega
   have hfg := List.getElem?_eq_getElem hfl
   have hsame : l[s] = l[first (e s) s] := (he _ _ _ _ hg hfg).1 (f1 hf)
   have hgt : (l.take s)[first (e s) s]? = some l[first (e s) s] := by rw [List.getElem?_take_of_lt hf]; exact hfg
   have hm : l[s] ∈ l.take s := by rw [hsame]; exact List.mem_of_getElem? hgt
   rw [if_pos hf, dd_mem_snoc hm]
   simp only [nrm, List.map_append, List.map_cons, List.map_nil, dd_mem_snoc hm]
   have : (nrm (l.take s)).getD (first (e s) s) 0 = ix l[s] (dd (l.take s)) := by
    rw [List.getD_eq_getElem?_getD, nrm_get hgt, hsame]; rfl
   rw [show (List.map (fun k => ix k (dd (List.take s l))) (List.take s l)) = nrm (l.take s) from rfl, this]
  ·have hm : l[s] ∉ l.take s := by
    intro hm
    obtain ⟨i, hi⟩ := List.getElem?_of_mem hm
    have his : i < s := by have := (List.getElem?_eq_some_iff.1 hi).1; rw [List.length_take] at this; omega
    rw [List.getElem?_take_of_lt his] at hi
    have := (he _ _ _ _ hg hi).2 rfl
    rw [f2 i (by omega)] at this; cases this
   rw [if_neg hf, dd_new_snoc hm]
   simp only [nrm, List.map_append, List.map_cons, List.map_nil, dd_new_snoc hm, List.length_append, List.length_cons, List.length_nil]
   congr 1
   ·congr 1
    ·apply List.map_congr_left
     intro a ha
     rw [ix_append_left (mem_dd.2 ha)]
    ·rw [ix_append_right (fun hh => hm (mem_dd.1 hh))]; simp [ix]
end
theorem foldl_add01 : ∀ (l : List Nat), (∀ x ∈ l, x ≤ 1) → l.foldl add [0, 1] = [0, 1] ∧ (l.foldl add [0] = [0] ∧ 1 ∉ l ∨ l.foldl add [0] = [0, 1] ∧ 1 ∈ l)
 | [], _ => by simp
 | x :: l, h => by
  obtain ⟨h1, h2⟩ := foldl_add01 l fun y hy => h y (by simp [hy])
  have hx := h x (by simp)
  have : x = 0 ∨ x = 1 := by omega
  rcases this with rfl | rfl
  ·refine ⟨?_, ?_⟩
   ·rw [List.foldl_cons, show add [0, 1] 0 = [0, 1] by decide]; exact h1
   ·rw [List.foldl_cons, show add [0] 0 = [0] by decide]
    rcases h2 with ⟨a, b⟩ | ⟨a, b⟩
    ·exact .inl ⟨a, by simp [b]⟩
    ·exact .inr ⟨a, by simp [b]⟩
  ·refine ⟨?_, ?_⟩
   ·rw [List.foldl_cons, show add [0, 1] 1 = [0, 1] by decide]; exact h1
   ·rw [List.foldl_cons, show add [0] 1 = [0, 1] by decide]
    exact .inr ⟨h1, by simp⟩
theorem nrm01 {l : List Nat} (h0 : l.headD 0 = 0) (h : ∀ x ∈ l, x ≤ 1) : nrm l = l := by
 cases l with
 | nil => rfl
 | cons a l =>
  simp at h0
  subst h0
  have e : dd (0 :: l) = l.foldl add [0] := by simp [dd, add]
  have h2 := (foldl_add01 l fun y hy => h y (by simp [hy])).2
  rw [nrm, e]
  conv => rhs; rw [← List.map_id (0 :: l)]
  apply List.map_congr_left
  intro x hx
  have hx1 := h x hx
  have : x = 0 ∨ x = 1 := by omega
  rcases this with rfl | rfl
  ·rcases h2 with ⟨a, b⟩ | ⟨a, b⟩ <;> rw [a] <;> decide
  ·rcases h2 with ⟨a, b⟩ | ⟨a, b⟩
   ·simp at hx; exact absurd hx b
   ·rw [a]; decide
theorem itF_can (d : DFA) : ∀ k, nrm (itF d k) = itF d k
 | 0 => by
  refine nrm01 ?_ ?_
  ·rw [itF]
   cases e : (beginF d) with
   | nil => rfl
   | cons a l =>
    have : (beginF d)[0]? = some a := by rw [e]; rfl
    have hn : 0 < d.next.length := by
     have : (beginF d).length = d.next.length := by simp [beginF]
     rw [e] at this; simp at this; omega
    rw [beginF_get hn] at this
    simpa using this.symm
  ·intro x hx
   obtain ⟨s, _, rfl⟩ := List.mem_map.1 hx
   split <;> omega
 | k + 1 => by rw [itF, refineF_nrm, nrm_nrm]
theorem dif_mono {d : DFA} {k m s t : Nat} (h : k ≤ m) (hd : dif d k s t = true) : dif d m s t = true := by
 obtain ⟨u, h1, h2, h3⟩ := (dif_iff d k s t).1 hd
 exact (dif_iff d m s t).2 ⟨u, h1, by omega, h3⟩
theorem itF_get {d : DFA} {k s : Nat} (hs : s < d.next.length) : (itF d k)[s]? = some ((itF d k).getD s 0) := by
 have : s < (itF d k).length := by rw [itF_length]; exact hs
 rw [List.getD_eq_getElem?_getD, List.getElem?_eq_getElem this]; rfl
def clsN (d : DFA) (k : Nat) : Nat := (dd (itF d k)).length
theorem clsN_step {d : DFA} (hv : Val d) (k : Nat) : clsN d k ≤ clsN d (k + 1) ∧ (clsN d k = clsN d (k + 1) → itF d (k + 1) = itF d k) := by
 have hl : (itF d (k + 1)).length = (itF d k).length := by rw [itF_length, itF_length]
 have at_ : ∀ p ∈ (itF d (k + 1)).zip (itF d k), ∃ s, s < d.next.length ∧ (itF d (k + 1)).getD s 0 = p.1 ∧ (itF d k).getD s 0 = p.2 := fun p hp => by
  obtain ⟨i, a1, a2⟩ := zip_get hl hp
  refine ⟨i, ?_, getD_of a1, getD_of a2⟩
  have := (List.getElem?_eq_some_iff.1 a2).1
  rwa [itF_length] at this
 have h := dd_finer ((itF d (k + 1)).zip (itF d k)) fun p hp q hq e => by
  obtain ⟨s, hs, a1, a2⟩ := at_ p hp
  obtain ⟨t, ht, b1, b2⟩ := at_ q hq
  rw [← a1, ← b1, itF_iff hv _ s t hs ht] at e
  rw [← a2, ← b2, itF_iff hv _ s t hs ht, ← Bool.not_eq_true]
  intro hh
  rw [dif_mono (Nat.le_succ k) hh] at e; cases e
 rw [(zip_ends hl).1, (zip_ends hl).2] at h
 refine ⟨h.1, fun e => ?_⟩
 have h2 := h.2 e
 rw [← itF_can d (k + 1), ← itF_can d k]
 refine (nrm_congr hl ?_).1
 intro i j a b a' b' hi hj hi' hj'
 have hm : ∀ {i a a'}, (itF d (k + 1))[i]? = some a → (itF d k)[i]? = some a' → (a, a') ∈ (itF d (k + 1)).zip (itF d k) := fun {i a a'} x y => by
  apply List.mem_of_getElem? (i := i)
  rw [List.getElem?_zip_eq_some]
  exact ⟨x, y⟩
 refine ⟨fun e => ?_, h2 _ (hm hi hi') _ (hm hj hj')⟩
 have hin : i < d.next.length := by have := (List.getElem?_eq_some_iff.1 hi').1; rwa [itF_length] at this
 have hjn : j < d.next.length := by have := (List.getElem?_eq_some_iff.1 hj').1; rwa [itF_length] at this
 rw [← getD_of hi, ← getD_of hj, itF_iff hv _ i j hin hjn] at e
 rw [← getD_of hi', ← getD_of hj', itF_iff hv _ i j hin hjn, ← Bool.not_eq_true]
 intro hh
 rw [dif_mono (Nat.le_succ k) hh] at e; cases e
theorem clsN_le (d : DFA) (k : Nat) : clsN d k ≤ d.next.length := by
 have := dd_length (itF d k)
 rw [itF_length] at this; exact this
theorem clsN_pos {d : DFA} (hv : Val d) (k : Nat) : 0 < clsN d k := by
 have h : (itF d k).getD 0 0 ∈ dd (itF d k) := mem_dd.2 (List.mem_of_getElem? (itF_get hv.n0))
 exact List.length_pos_of_mem h
theorem itF_grow {d : DFA} (hv : Val d) : ∀ k, (∃ j, j < k ∧ itF d (j + 1) = itF d j) ∨ k + 1 ≤ clsN d k
 | 0 => .inr (clsN_pos hv 0)
 | k + 1 => by
  rcases itF_grow hv k with ⟨j, hj, h⟩ | h
  ·exact .inl ⟨j, by omega, h⟩
  ·obtain ⟨h1, h2⟩ := clsN_step hv k
   by_cases e : clsN d k = clsN d (k + 1)
   ·exact .inl ⟨k, by omega, h2 e⟩
   ·exact .inr (by omega)
theorem itF_stab {d : DFA} (hv : Val d) : ∀ m, d.next.length ≤ m → itF d m = itF d d.next.length := by
 intro m hm
 rcases itF_grow hv d.next.length with ⟨j, hj, h⟩ | h
 ·have hs : refineF d (itF d j) = itF d j := by rw [← itF]; exact h
  rw [itF_stable hs m (by omega), itF_stable hs d.next.length (by omega)]
 ·have := clsN_le d d.next.length; omega
theorem cls_iff {d : DFA} (hv : Val d) {s t : Nat} (hs : s < d.next.length) (ht : t < d.next.length) :
  (itF d d.next.length).getD s 0 = (itF d d.next.length).getD t 0 ↔ ∀ u, Wd d u → ¬ dst d s t u := by
 constructor
 ·intro h u hu hd
  have h2 : (itF d (max u.length d.next.length)).getD s 0 = (itF d (max u.length d.next.length)).getD t 0 := by rw [itF_stab hv _ (by omega)]; exact h
  rw [itF_iff hv _ s t hs ht, ← Bool.not_eq_true] at h2
  exact h2 ((dif_iff d _ s t).2 ⟨u, hu, by omega, hd⟩)
 ·intro h
  rw [itF_iff hv _ s t hs ht, ← Bool.not_eq_true]
  intro hh
  obtain ⟨u, h1, _, h3⟩ := (dif_iff d _ s t).1 hh
  exact h u h1 h3
theorem labN_itF {d : DFA} (hv : Val d) (k : Nat) : (labN (fun s t => !dif d k s t) d.next.length).1 = itF d k := by
 have h := labN_nrm (e := fun s t => !dif d k s t) (l := itF d k) (fun s t a b hs ht => by
  have hs' : s < d.next.length := by have := (List.getElem?_eq_some_iff.1 hs).1; rwa [itF_length] at this
  have ht' : t < d.next.length := by have := (List.getElem?_eq_some_iff.1 ht).1; rwa [itF_length] at this
  rw [← getD_of hs, ← getD_of ht, itF_iff hv k s t hs' ht']; simp) d.next.length (by rw [itF_length]; exact Nat.le_refl _)
 rw [h]
 show nrm ((itF d k).take d.next.length) = _
 rw [List.take_of_length_le (by rw [itF_length]; exact Nat.le_refl _), itF_can]
theorem quoN_cls {d : DFA} {α : Type} [DecidableEq α] {l : List α} {cs : List Nat} (hl : l.length = d.next.length) (hcs : cs = nrm l) : ∀ k, k ≤ d.next.length → (quoN d cs k).1.length = (dd (l.take k)).length
 | 0, _ => by simp [quoN, dd]
 | k + 1, hk => by
  have hk' : k < l.length := by omega
  have ih := quoN_cls hl hcs k (by omega)
  have hg := List.getElem?_eq_getElem hk'
  have hc : cs.getD k 0 = ix l[k] (dd l) := by rw [hcs]; exact getD_of (nrm_get hg)
  have hp : dd (l.take k) <+: dd l := by
   conv => rhs; rw [← List.take_append_drop k l]
   rw [dd_append]; exact foldl_prefix _ _
  rw [quoN, ih, hc, List.take_succ_eq_append_getElem hk']
  by_cases hm : l[k] ∈ l.take k
  ·rw [dd_mem_snoc hm, ix_prefix hp (mem_dd.2 hm), if_pos (ix_lt (mem_dd.2 hm)), ih]
  ·have hp2 : dd (l.take k) ++ [l[k]] <+: dd l := by
    rw [← dd_new_snoc hm, ← List.take_succ_eq_append_getElem hk']
    conv => rhs; rw [← List.take_append_drop (k + 1) l]
    rw [dd_append]; exact foldl_prefix _ _
   have e : ix l[k] (dd l) = (dd (l.take k)).length := by
    rw [ix_prefix hp2 (by simp), ix_append_right (fun hh => hm (mem_dd.1 hh))]; simp [ix]
   rw [dd_new_snoc hm, e, if_neg (Nat.lt_irrefl _)]
   simp [ih]
theorem quoN_rows {d : DFA} (cs : List Nat) : ∀ k, ∀ r ∈ (quoN d cs k).1, ∃ s, s < k ∧ r = (rowK cs (d.next.getD s [])).map fun c : Nat => (c : Int)
 | 0, r, h => by simp [quoN] at h
 | k + 1, r, h => by
  rw [quoN] at h
  split at h
  ·obtain ⟨s, hs, e⟩ := quoN_rows cs k r h; exact ⟨s, by omega, e⟩
  ·rcases List.mem_append.1 h with h | h
   ·obtain ⟨s, hs, e⟩ := quoN_rows cs k r h; exact ⟨s, by omega, e⟩
   ·exact ⟨k, by omega, List.mem_singleton.1 h⟩
theorem quo_len {d : DFA} {cs : List Nat} (hl : cs.length = d.next.length) (hc : nrm cs = cs) : (quo d cs).next.length = (dd cs).length := by
 show (quoN d cs d.next.length).1.length = _
 rw [quoN_cls (l := cs) hl hc.symm _ (Nat.le_refl _), List.take_of_length_le (by omega)]
theorem can_lt {cs : List Nat} (hc : nrm cs = cs) {i c : Nat} (h : cs[i]? = some c) : c < (dd cs).length := by
 have h2 := nrm_get h
 rw [hc, h] at h2
 have := ix_lt (mem_dd.2 (List.mem_of_getElem? h))
 have e := Option.some.inj h2
 omega
theorem quo_val {d : DFA} (hv : Val d) {cs : List Nat} (hl : cs.length = d.next.length) (hc : nrm cs = cs) : Val (quo d cs) := by
 have hq := quo_len hl hc
 have hlt : ∀ i, i < d.next.length → cs.getD i 0 < (dd cs).length := fun i hi => by
  have hi' : i < cs.length := by omega
  have := List.getElem?_eq_getElem hi'
  rw [getD_of this]; exact can_lt hc this
 have h1 := (quoN_len d cs d.next.length)
 refine ⟨hv.v0, hv.v6, ?_, ?_, ?_, ?_, ?_, ?_⟩
 ·rw [hq]; have := hlt 0 hv.n0; omega
 ·exact h1.1.symm
 ·exact Int.natCast_nonneg _
 ·rw [hq]
  show ((cs.getD d.start.toNat 0 : Nat) : Int) < _
  have := hlt d.start.toNat (by have := hv.s0; have := hv.s1; omega)
  omega
 ·intro r hr
  obtain ⟨s, hs, rfl⟩ := quoN_rows cs _ r hr
  rw [List.length_map, rowK_length]
  simp [hs]
  exact hv.len _ (List.getElem_mem hs)
 ·intro r hr x hx
  rw [hq]
  obtain ⟨s, hs, rfl⟩ := quoN_rows cs _ r hr
  obtain ⟨c, hc', rfl⟩ := List.mem_map.1 hx
  refine ⟨Int.natCast_nonneg _, ?_⟩
  obtain ⟨to, hto, rfl⟩ := List.mem_map.1 hc'
  simp [hs] at hto
  have := hv.ok _ (List.getElem_mem hs) to hto
  have := hlt to.toNat (by omega)
  omega
theorem quo_valid {d : DFA} (hv : Valid d) {cs : List Nat} (hl : cs.length = d.next.length) (hc : nrm cs = cs) : Valid (quo d cs) :=
 ⟨quo_val hv hl hc, by have := (quoN_len d cs d.next.length).2; have := hv.n4; show (quoN d cs d.next.length).1.length ≤ _; omega⟩
theorem quo_itV {d : DFA} (hv : Val d) (k : Nat) : Val (quo d (itF d k)) ∧ (quo d (itF d k)).next.length ≤ d.next.length :=
 ⟨quo_val hv (itF_length d k) (itF_can d k), (quoN_len d _ _).2⟩
theorem quo_itF {d : DFA} (hv : Valid d) (k : Nat) : Valid (quo d (itF d k)) ∧ (quo d (itF d k)).next.length ≤ d.next.length :=
 ⟨quo_valid hv (itF_length d k) (itF_can d k), (quoN_len d _ _).2⟩
end Go.Lx


namespace Go.Lx
open Go.RowKit
structure BRec where
 b : Option Addr
 c : Nat
 xs : List Bool
def BRec.val (q : BRec) : Value := .slice q.b q.xs.length q.c
def BRec.itm (E : TypeId) (q : BRec) : Item := rowI q.b q.c E 1 (bools q.xs)
abbrev bvals (qs : List BRec) : List Value := qs.map BRec.val
abbrev bitms (E : TypeId) (qs : List BRec) : List Item := qs.map (BRec.itm E)
def fillB (f : Nat → Bool) (n t : Nat) : List Bool := (List.range n).map fun i => if i < t then f i else false
theorem fillB_length (f : Nat → Bool) (n t : Nat) : (fillB f n t).length = n := by simp [fillB]
theorem fillB_get {f : Nat → Bool} {n t i : Nat} (h : i < n) : (fillB f n t)[i]? = some (if i < t then f i else false) := by simp [fillB, h]
theorem fillB_zero (f : Nat → Bool) (n : Nat) : fillB f n 0 = List.replicate n false := by
 apply List.ext_getElem?
 intro i
 by_cases h : i < n
 ·rw [fillB_get h]; simp [h]
 ·rw [List.getElem?_eq_none (by rw [fillB_length]; omega), List.getElem?_eq_none (by simp; omega)]
theorem fillB_set {f : Nat → Bool} {n t : Nat} {v : Bool} (h : t < n) (hv : v = f t) : (fillB f n t).set t v = fillB f n (t + 1) := by
 subst hv
 apply List.ext_getElem?
 intro i
 by_cases hi : i < n
 ·rw [fillB_get hi]
  by_cases e : i = t
  ·subst e; rw [List.getElem?_set_self (by rw [fillB_length]; exact hi)]; simp
  ·rw [List.getElem?_set_ne (fun h => e h.symm), fillB_get hi]
   congr 1
   by_cases h2 : i < t
   ·rw [if_pos h2, if_pos (by omega)]
   ·rw [if_neg h2, if_neg (by omega)]
 ·rw [List.getElem?_eq_none (by rw [List.length_set, fillB_length]; omega), List.getElem?_eq_none (by rw [fillB_length]; omega)]
theorem fillB_full (f : Nat → Bool) (n : Nat) : fillB f n n = (List.range n).map f := by
 apply List.map_congr_left
 intro i hi
 rw [if_pos (List.mem_range.1 hi)]
def difRow (d : DFA) (k s : Nat) : List Bool := (List.range d.next.length).map (dif d k s)
def MatOk (d : DFA) (k m : Nat) (qs : List BRec) : Prop := qs.map BRec.xs = (List.range m).map (difRow d k)
theorem difRow_length (d : DFA) (k s : Nat) : (difRow d k s).length = d.next.length := by simp [difRow]
theorem MatOk.len {d : DFA} {k m : Nat} {qs : List BRec} (h : MatOk d k m qs) : qs.length = m := by
 have := congrArg List.length h
 simpa using this
theorem MatOk.get {d : DFA} {k m : Nat} {qs : List BRec} (h : MatOk d k m qs) {a : Nat} (ha : a < m) :
  ∃ q, q ∈ qs ∧ (bvals qs)[a]? = some (.slice q.b d.next.length q.c) ∧ (bools q.xs).length = d.next.length ∧ ∀ t, t < d.next.length → (bools q.xs)[t]? = some (.bool (dif d k a t)) := by
 have hl := h.len
 have ha' : a < qs.length := by omega
 have e : qs[a].xs = difRow d k a := by
  have := congrArg (fun l => l[a]?) h
  simp only [List.getElem?_map, List.getElem?_eq_getElem ha', Option.map_some, List.getElem?_range ha] at this
  exact Option.some.inj this
 refine ⟨qs[a], List.getElem_mem ha', ?_, ?_, ?_⟩
 ·rw [List.getElem?_map, List.getElem?_eq_getElem ha', Option.map_some, BRec.val, e, difRow_length]
 ·rw [List.length_map, e, difRow_length]
 ·intro t ht
  rw [List.getElem?_map, e, difRow, List.getElem?_map, List.getElem?_range ht]; rfl
theorem MatOk.snoc {d : DFA} {k m : Nat} {qs : List BRec} (h : MatOk d k m qs) {b : Option Addr} {c : Nat} : MatOk d k (m + 1) (qs ++ [⟨b, c, difRow d k m⟩]) := by
 unfold MatOk at *
 rw [List.map_append, h, List.range_succ, List.map_append]; rfl
theorem hole_set {l : List Value} {s n : Nat} {z v : Value} (hl : l.length = s) (hs : s < n) : (l ++ List.replicate (n - s) z).set s v = l ++ v :: List.replicate (n - (s + 1)) z := by
 rw [List.set_append_right _ _ (by omega), hl, Nat.sub_self, show n - s = (n - (s + 1)) + 1 by omega, List.replicate_succ]; rfl
theorem hole_get {l r : List Value} {s : Nat} {v : Value} (hl : l.length = s) : (l ++ v :: r)[s]? = some v := by
 rw [List.getElem?_append_right (by omega), hl, Nat.sub_self]; rfl
def labD (d : DFA) (k s : Nat) : List Nat × Nat := labN (fun s t => !dif d k s t) s
theorem labD_len (d : DFA) (k : Nat) : ∀ s, (labD d k s).1.length = s ∧ (labD d k s).2 ≤ s
 | 0 => ⟨rfl, Nat.le_refl _⟩
 | s + 1 => by
  obtain ⟨h1, h2⟩ := labD_len d k s
  unfold labD at *
  rw [labN]
  split
  ·exact ⟨by simp [h1], by simp only; omega⟩
  ·exact ⟨by simp [h1], by simp only; omega⟩
theorem labD_old {d : DFA} {k s t : Nat} (hts : t < s) (h : ∀ t', t' < t → dif d k s t' = true) (ht : dif d k s t = false) : labD d k (s + 1) = ((labD d k s).1 ++ [(labD d k s).1.getD t 0], (labD d k s).2) := by
 have hf : first ((fun s t => !dif d k s t) s) s = t := first_eq (by omega) (fun _ => by simp [ht]) (fun t' h' => by simp [h t' h'])
 unfold labD
 rw [labN, hf, if_pos hts]
theorem labD_new {d : DFA} {k s : Nat} (h : ∀ t', t' < s → dif d k s t' = true) : labD d k (s + 1) = ((labD d k s).1 ++ [(labD d k s).2], (labD d k s).2 + 1) := by
 have hf : first ((fun s t => !dif d k s t) s) s = s := first_eq (Nat.le_refl _) (fun h => absurd h (by omega)) (fun t' h' => by simp [h t' h'])
 unfold labD
 rw [labN, hf, if_neg (by omega)]
theorem labD_itF {d : DFA} (hv : Val d) (k : Nat) : (labD d (min k d.next.length) d.next.length).1 = itF d k := by
 show (labN _ _).1 = _
 rw [labN_itF hv]
 by_cases h : k ≤ d.next.length
 ·rw [Nat.min_eq_left h]
 ·rw [Nat.min_eq_right (by omega), itF_stab hv k (by omega)]
theorem any_snoc (f : Nat → Bool) (x : Nat) : (List.range (x + 1)).any f = ((List.range x).any f || f x) := by
 rw [List.range_succ, List.any_append]; simp
end Go.Lx


namespace Go.Lx
open Go.RowKit
theorem foldl_add_ok {n : Nat} : ∀ (l ks : List Nat), ks.Nodup → (∀ k ∈ ks, k < n) → (∀ k ∈ l, k < n) → (l.foldl add ks).Nodup ∧ ∀ k ∈ l.foldl add ks, k < n
 | [], ks, h1, h2, _ => ⟨h1, h2⟩
 | a :: l, ks, h1, h2, h3 => foldl_add_ok l (add ks a) (add_nodup h1) (fun k hk => (mem_add.1 hk).elim (h2 k) fun e => e ▸ h3 a (by simp)) fun k hk => h3 k (by simp [hk])
theorem sucs_lt {d : DFA} (hv : Val d) {o : Nat} (ho : o < d.next.length) : ∀ t ∈ sucs d o, t < d.next.length := fun t ht => by
 obtain ⟨x, hx, rfl⟩ := List.mem_map.1 ht
 exact (hv.toN_lt ho (List.mem_range.1 hx)).1
theorem bfsN_ok {d : DFA} (hv : Val d) : ∀ i, (bfsN d i).Nodup ∧ ∀ o ∈ bfsN d i, o < d.next.length
 | 0 => by
  refine ⟨by simp [bfsN], fun o ho => ?_⟩
  simp only [bfsN, List.mem_singleton] at ho
  have := hv.s0; have := hv.s1; omega
 | i + 1 => by
  obtain ⟨h1, h2⟩ := bfsN_ok hv i
  rw [bfsN]
  split
  ·rename_i hi
   refine foldl_add_ok _ _ h1 h2 (sucs_lt hv (h2 _ ?_))
   rw [List.getD_eq_getElem?_getD, List.getElem?_eq_getElem hi]
   exact List.getElem_mem hi
  ·exact ⟨h1, h2⟩
theorem bfsN_len {d : DFA} (hv : Val d) (i : Nat) : (bfsN d i).length ≤ d.next.length := nodup_bound (bfsN_ok hv i).1 (bfsN_ok hv i).2
theorem bfsN_succ {d : DFA} {i o : Nat} (h : (bfsN d i)[i]? = some o) : bfsN d (i + 1) = (sucs d o).foldl add (bfsN d i) := by
 have hi := (List.getElem?_eq_some_iff.1 h).1
 rw [bfsN, if_pos hi, List.getD_eq_getElem?_getD, h]; rfl
def bfsM (d : DFA) (i o x : Nat) : List Nat := ((List.range x).map (toN d o)).foldl add (bfsN d i)
theorem bfsM_step (d : DFA) (i o x : Nat) : bfsM d i o (x + 1) = add (bfsM d i o x) (toN d o x) := foldl_add_snoc _ _ _
theorem bfsM_len {d : DFA} (hv : Val d) {i o x : Nat} (ho : o < d.next.length) (hx : x ≤ 2 ^ d.vars.toNat) : (bfsM d i o x).length ≤ d.next.length ∧ (bfsN d i).length ≤ (bfsM d i o x).length := by
 obtain ⟨h1, h2⟩ := bfsN_ok hv i
 obtain ⟨h3, h4⟩ := foldl_add_ok ((List.range x).map (toN d o)) _ h1 h2 (fun t ht => by
  obtain ⟨y, hy, rfl⟩ := List.mem_map.1 ht
  exact (hv.toN_lt ho (by have := List.mem_range.1 hy; omega)).1)
 exact ⟨nodup_bound h3 h4, (foldl_prefix _ _).length_le⟩
theorem order_len {d : DFA} (hv : Val d) : (order d).length ≤ d.next.length := bfsN_len hv _
theorem order_lt {d : DFA} (hv : Val d) : ∀ o ∈ order d, o < d.next.length := (bfsN_ok hv _).2
theorem order_stop {d : DFA} (hv : Val d) : ∃ N, N ≤ d.next.length ∧ (bfsN d N).length = N ∧ (∀ j, j < N → j < (bfsN d j).length) := by
 have step : ∀ k, (∃ N, N ≤ k ∧ (bfsN d N).length = N ∧ ∀ j, j < N → j < (bfsN d j).length) ∨ ((∀ j, j < k → j < (bfsN d j).length) ∧ k ≤ (bfsN d k).length) := by
  intro k
  induction k with
  | zero => exact .inr ⟨fun j hj => absurd hj (by omega), Nat.zero_le _⟩
  | succ k ih =>
   rcases ih with ⟨N, h1, h2⟩ | ⟨h1, h2⟩
   ·exact .inl ⟨N, by omega, h2⟩
   ·by_cases e : (bfsN d k).length = k
    ·exact .inl ⟨k, by omega, e, h1⟩
    ·refine .inr ⟨fun j hj => ?_, ?_⟩
     ·by_cases ej : j = k
      ·subst ej; omega
      ·exact h1 j (by omega)
     ·have hi : k < (bfsN d k).length := by omega
      rw [bfsN_succ (List.getElem?_eq_getElem hi)]
      have := (foldl_prefix (sucs d (bfsN d k)[k]) (bfsN d k)).length_le
      omega
 rcases step d.next.length with h | ⟨h1, h2⟩
 ·exact h
 ·exact ⟨d.next.length, Nat.le_refl _, by have := bfsN_len hv d.next.length; omega, h1⟩
theorem bfsN_prefix (d : DFA) : ∀ (i m : Nat), i ≤ m → bfsN d i <+: bfsN d m := by
 intro i m h
 induction h with
 | refl => exact List.prefix_refl _
 | @step m _ ih =>
  refine ih.trans ?_
  rw [bfsN]
  split
  ·exact foldl_prefix _ _
  ·exact List.prefix_refl _
theorem order_closed {d : DFA} (hv : Val d) : ∀ o ∈ order d, ∀ t ∈ sucs d o, t ∈ order d := by
 obtain ⟨N, hN, hl, hj⟩ := order_stop hv
 have e := order_eq hl hN
 intro o ho t ht
 rw [e] at ho ⊢
 obtain ⟨j, hjo⟩ := List.getElem?_of_mem ho
 have hjl := (List.getElem?_eq_some_iff.1 hjo).1
 have hjj := hj j (by omega)
 have hp := bfsN_prefix d j N (by omega)
 have hjo' : (bfsN d j)[j]? = some o := by
  obtain ⟨r, hr⟩ := hp
  rw [← hr, List.getElem?_append_left hjj] at hjo
  exact hjo
 have hp2 := bfsN_prefix d (j + 1) N (by omega)
 refine hp2.subset ?_
 rw [bfsN_succ hjo']
 exact (mem_foldl_add _ _).2 (.inr ht)
theorem ix_le {α : Type} [DecidableEq α] {x : α} : ∀ {ks : List α} {k : Nat}, ks[k]? = some x → ix x ks ≤ k
 | [], k, h => by simp at h
 | a :: ks, k, h => by
  simp only [ix]
  split
  ·omega
  ·rename_i hne
   cases k with
   | zero => simp at h; exact absurd h.symm hne
   | succ k => have := ix_le (ks := ks) (k := k) (by simpa using h); omega
theorem sucs_length (d : DFA) (o : Nat) : (sucs d o).length = 2 ^ d.vars.toNat := by simp [sucs]
theorem sucs_get {d : DFA} {o x : Nat} (h : x < 2 ^ d.vars.toNat) : (sucs d o)[x]? = some (toN d o x) := by simp [sucs, h]
def renRow (d : DFA) (o : Nat) : List Nat := (sucs d o).map fun t => ix t (order d)
theorem renRow_length (d : DFA) (o : Nat) : (renRow d o).length = 2 ^ d.vars.toNat := by simp [renRow, sucs]
theorem renRow_step {d : DFA} {o x : Nat} (h : x < 2 ^ d.vars.toNat) : (renRow d o).take (x + 1) = (renRow d o).take x ++ [ix (toN d o x) (order d)] := by
 rw [List.take_succ_eq_append_getElem (by rw [renRow_length]; exact h)]
 congr 2
 have := sucs_get (d := d) (o := o) h
 have h2 : (renRow d o)[x]? = some (ix (toN d o x) (order d)) := by rw [renRow, List.getElem?_map, this]; rfl
 rw [List.getElem?_eq_getElem (by rw [renRow_length]; exact h)] at h2
 exact Option.some.inj h2
theorem renum_next (d : DFA) : (renum d).next = (order d).map fun o => (renRow d o).map fun x : Nat => (x : Int) := by
 simp [renum, renRow, Function.comp_def]
end Go.Lx


namespace Go.Lx
theorem dif_stab {d : DFA} (hv : Val d) {s t : Nat} (hs : s < d.next.length) (ht : t < d.next.length) (m : Nat) (h : ∀ j, j ≤ d.next.length → dif d j s t = false) : dif d m s t = false := by
 by_cases hm : m ≤ d.next.length
 ·exact h m hm
 ·have h1 := (itF_iff hv d.next.length s t hs ht).2 (h _ (Nat.le_refl _))
  rw [← itF_iff hv m s t hs ht, itF_stab hv m (by omega)]
  exact h1
theorem tell_none {d : DFA} (hv : Val d) {s t : Nat} (hs : s < d.next.length) (ht : t < d.next.length) (h : ∀ j, j ≤ d.next.length → dif d j s t = false) : Tell d s t none := by
 intro u hu hd
 have := dif_stab hv hs ht u.length h
 rw [(dif_iff d u.length s t).2 ⟨u, hu, Nat.le_refl _, hd⟩] at this
 cases this
end Go.Lx


namespace Go.Lx
open Go.RowKit
theorem CallT.addNil {P : Program} {base : World} {f : FuncId} {args : List Value} {O : List Item} {R : Value → List Item → Prop} (E : TypeId) (k : Nat) (h : CallT P base f args O R) : CallT P base f args O (fun v O' => ∃ O2, O' = rowI none 0 E k [] :: O2 ∧ R v O2) :=
 fun w M hI => (h w M hI).mono fun _ _ ⟨v, O', h1, h2, h3⟩ => ⟨v, _, h1, h2.nilRow E k, O', rfl, h3⟩
theorem CallT.none {P : Program} {base : World} {f : FuncId} {args : List Value} {R : Value → List Item → Prop} (h : CallT P base f args [] R) : CallT P base f args [] (fun v O' => O' = [] ∧ ∃ O2, R v O2) :=
 fun w M hI => (h w M hI).mono fun _ _ ⟨v, O', h1, h2, h3⟩ => ⟨v, [], h1, by simpa using h2.subp (Sub.of (List.sublist_append_right O' M)), rfl, O', h3⟩
theorem allN {α : Type} {p : α → Prop} : ∀ q ∈ ([] : List α), p q := fun q h => by cases h
theorem allC {α : Type} {p : α → Prop} {a : α} {l : List α} (h1 : p a) (h2 : ∀ q ∈ l, p q) : ∀ q ∈ a :: l, p q := fun q h => by
 rcases List.mem_cons.1 h with rfl | h
 ·exact h1
 ·exact h2 q h
def minD (d : DFA) : DFA := renum (quo d (itF d d.next.length))
def minV (d : DFA) : DFA := if checkD d = 0 then minD d else ⟨0, 0, [], []⟩
def eD (d : DFA) (s t : Int) : Nat := if checkD d ≠ 0 then checkD d else if s < 0 ∨ t < 0 ∨ (d.next.length : Int) ≤ s ∨ (d.next.length : Int) ≤ t then 8 else 0
def TellA (d : DFA) (s t : Int) (res : Option (List Nat)) : Prop := if eD d s t = 0 then Tell d s.toNat t.toNat res else res = none
theorem eD_zero {d : DFA} {s t : Int} : eD d s t = 0 ↔ Valid d ∧ 0 ≤ s ∧ s < (d.next.length : Int) ∧ 0 ≤ t ∧ t < (d.next.length : Int) := by
 unfold eD
 by_cases h : checkD d = 0
 ·rw [if_neg (by simp [h])]
  by_cases h2 : s < 0 ∨ t < 0 ∨ (d.next.length : Int) ≤ s ∨ (d.next.length : Int) ≤ t
  ·rw [if_pos h2]; exact ⟨fun h => absurd h (by decide), fun h => by omega⟩
  ·rw [if_neg h2]; exact ⟨fun _ => ⟨checkD_zero.1 h, by omega, by omega, by omega, by omega⟩, fun _ => rfl⟩
 ·rw [if_pos h]; exact ⟨fun e => absurd e h, fun hh => absurd (checkD_zero.2 hh.1) h⟩
theorem TellA.none {d : DFA} {s t : Int} {a : Option (List Nat)} (h : eD d s t ≠ 0) (ha : TellA d s t a) : a = .none := by
 unfold TellA at ha; rwa [if_neg h] at ha
end Go.Lx


namespace Go.Lx
open Go.RowKit
structure DRec where
 d : DFA
 nb : Option Addr
 fb : Option Addr
 nc : Nat
 fc : Nat
 vs : List Value
def DRec.cells (r : DRec) : List Value := dfaCells r.d r.nb r.nc r.fb r.fc
abbrev dcells (L : List DRec) : List Value := L.flatMap DRec.cells
theorem dcells_len : ∀ L : List DRec, (dcells L).length = L.length * 4
 | [] => rfl
 | q :: rs => by
  have := dcells_len rs
  simp only [dcells] at this
  simp only [dcells, List.flatMap_cons, List.length_append, this, List.length_cons, DRec.cells, List.length_nil]
  omega
theorem dcells_get : ∀ {L : List DRec} {i : Nat} (h : i < L.length) {j : Nat}, j < 4 → (dcells L)[i * 4 + j]? = (L[i].cells)[j]?
 | q :: rs, 0, h, j, hj => by
  simp only [dcells, List.flatMap_cons]
  rw [List.getElem?_append_left (by simp [DRec.cells]; omega)]
  simp
 | q :: rs, i + 1, h, j, hj => by
  have ih := dcells_get (L := rs) (i := i) (by simpa using h) hj
  simp only [dcells, List.flatMap_cons]
  rw [List.getElem?_append_right (by simp [DRec.cells]; omega)]
  simp only [dcells] at ih
  rw [show (i + 1) * 4 + j - q.cells.length = i * 4 + j by simp [DRec.cells]; omega, ih]
  simp
def longD (d : DFA) : Bool := decide (40 < d.next.length) || decide (40 < d.final.length) || d.next.any fun r => decide (100 < r.length)
theorem longD_false {d : DFA} (h : ¬ longD d = true) : d.next.length ≤ 40 ∧ d.final.length ≤ 40 ∧ ∀ r ∈ d.next, r.length ≤ 100 := by
 simp only [longD, Bool.or_eq_true, decide_eq_true_eq, List.any_eq_true, not_or, not_exists, not_and] at h
 obtain ⟨⟨h1, h2⟩, h3⟩ := h
 exact ⟨by omega, by omega, fun r hr => by have := h3 r hr; omega⟩
theorem any_take {α : Type} {L : List α} {f : α → Bool} {i : Nat} (hi : i < L.length) (h : (L.take i).any f = false) (h2 : f L[i] = false) : (L.take (i + 1)).any f = false := by
 rw [List.take_succ_eq_append_getElem hi, List.any_append, h]; simp [h2]
theorem any_at {α : Type} {L : List α} {f : α → Bool} {i : Nat} (hi : i < L.length) (h : f L[i] = true) : L.any f = true :=
 List.any_eq_true.2 ⟨_, List.getElem_mem hi, h⟩
end Go.Lx
namespace Go.Lx
end Go.Lx
namespace Go.Lx
theorem Tell.len {d : DFA} (hv : Valid d) {s t : Nat} (hs : s < d.next.length) (ht : t < d.next.length) {u : List Nat} (h : Tell d s t (some u)) : u.length ≤ d.next.length := by
 have h : IsLeast d s t u := h
 by_cases hd : ∀ j, j ≤ d.next.length → dif d j s t = false
 ·exact absurd h.dst (tell_none hv hs ht hd u h.wd)
 ·obtain ⟨j, hj⟩ := Classical.not_forall.1 hd
  simp only [Classical.not_imp, Bool.not_eq_false] at hj
  obtain ⟨w, h1, h2, h3⟩ := (dif_iff d j s t).1 hj.2
  have := code_len u w (hv.wd64 h.wd) (hv.wd64 h1) (h.le w h1 h3)
  omega
theorem TellA.len {d : DFA} (hN : Valid d → d.next.length < 10000) {s t : Int} {res : Option (List Nat)} (h : TellA d s t res) : (res.getD []).length < 9223372036854775807 := by
 unfold TellA at h
 by_cases h0 : eD d s t = 0
 ·rw [if_pos h0] at h
  obtain ⟨hv, h1, h2, h3, h4⟩ := eD_zero.1 h0
  cases res with
  | none => exact (by decide : 0 < 9223372036854775807)
  | some u =>
   have := Tell.len hv (by omega) (by omega) h
   have := hN hv
   show u.length < _
   omega
 ·rw [if_neg h0] at h
  subst h
  exact (by decide : 0 < 9223372036854775807)
end Go.Lx


namespace Go.Lx
def clsOf (d : DFA) (s : Nat) : Nat := (itF d d.next.length).getD s 0
theorem clsOf_iff {d : DFA} (hv : Val d) {s t : Nat} (hs : s < d.next.length) (ht : t < d.next.length) : clsOf d s = clsOf d t ↔ ∀ u, Wd d u → ¬ dst d s t u := cls_iff hv hs ht
theorem clsOf_fin {d : DFA} (hv : Val d) {s t : Nat} (hs : s < d.next.length) (ht : t < d.next.length) (h : clsOf d s = clsOf d t) : finN d s = finN d t := by
 have := (clsOf_iff hv hs ht).1 h [] (fun x hx => by cases hx)
 exact Classical.not_not.1 this
theorem clsOf_next {d : DFA} (hv : Val d) {s t x : Nat} (hs : s < d.next.length) (ht : t < d.next.length) (hx : x < letN d) (h : clsOf d s = clsOf d t) : clsOf d (toN d s x) = clsOf d (toN d t x) := by
 rw [clsOf_iff hv (toN_get hv hs hx) (toN_get hv ht hx)]
 intro u hu hd
 exact (clsOf_iff hv hs ht).1 h (x :: u) (fun y hy => by rcases List.mem_cons.1 hy with rfl | hy; exact hx; exact hu y hy) hd
theorem quoN_at {d : DFA} {cs : List Nat} (hl : cs.length = d.next.length) (hc : nrm cs = cs) : ∀ k, k ≤ d.next.length → ∀ c, c < (quoN d cs k).1.length → ∃ s, s < k ∧ cs.getD s 0 = c ∧ (quoN d cs k).1[c]? = some ((rowK cs (d.next.getD s [])).map fun c : Nat => (c : Int)) ∧ (quoN d cs k).2[c]? = some (finN d s)
 | 0, _, c, h => by simp [quoN] at h
 | k + 1, hk, c, h => by
  have ih := quoN_at hl hc k (by omega)
  have hlen := quoN_len d cs k
  by_cases hn : cs.getD k 0 < (quoN d cs k).1.length
  ·rw [quoN, if_pos hn] at h ⊢
   obtain ⟨s, h1, h2⟩ := ih c h
   exact ⟨s, by omega, h2⟩
  ·rw [quoN, if_neg hn] at h ⊢
   by_cases hcl : c < (quoN d cs k).1.length
   ·obtain ⟨s, h1, h2, h3, h4⟩ := ih c hcl
    exact ⟨s, by omega, h2, by rw [List.getElem?_append_left hcl]; exact h3, by rw [List.getElem?_append_left (by omega)]; exact h4⟩
   ·have hce : c = (quoN d cs k).1.length := by simp at h; omega
    refine ⟨k, by omega, ?_, ?_, ?_⟩
    ·have h1 := quoN_cls (l := cs) hl hc.symm k (by omega)
     have h2 := quoN_cls (l := cs) hl hc.symm (k + 1) hk
     have hkl : k < cs.length := by omega
     have hg := List.getElem?_eq_getElem hkl
     have hck : cs.getD k 0 = ix cs[k] (dd cs) := by
      have := nrm_get hg
      rw [hc] at this
      rw [List.getD_eq_getElem?_getD, this]; rfl
     have hp2 : dd (cs.take (k + 1)) <+: dd cs := by
      conv => rhs; rw [← List.take_append_drop (k + 1) cs]
      rw [dd_append]; exact foldl_prefix _ _
     have hm : cs[k] ∈ dd (cs.take (k + 1)) := mem_dd.2 (by rw [List.take_succ_eq_append_getElem hkl]; exact List.mem_append_right _ (List.mem_singleton.2 rfl))
     have hlt := ix_lt hm
     rw [hck, ix_prefix hp2 hm]
     rw [hck, ix_prefix hp2 hm] at hn
     rw [quoN, if_neg (by rw [hck, ix_prefix hp2 hm]; exact hn)] at h2
     simp at h2
     omega
    ·rw [hce, List.getElem?_append_right (Nat.le_refl _)]; simp
    ·rw [hce, hlen.1, List.getElem?_append_right (Nat.le_refl _)]; simp [finN]
def quoD (d : DFA) : DFA := quo d (itF d d.next.length)
theorem quoD_val {d : DFA} (hv : Val d) : Val (quoD d) := (quo_itV hv d.next.length).1
theorem quoD_valid {d : DFA} (hv : Valid d) : Valid (quoD d) := (quo_itF hv d.next.length).1
theorem cls_lt {d : DFA} (hv : Val d) {s : Nat} (hs : s < d.next.length) : clsOf d s < (quoD d).next.length := by
 rw [quoD, quo_len (itF_length d _) (itF_can d _)]
 exact can_lt (itF_can d _) (itF_get hs)
theorem quoD_at {d : DFA} (hv : Val d) {c : Nat} (hc : c < (quoD d).next.length) : ∃ s, s < d.next.length ∧ clsOf d s = c ∧ finN (quoD d) c = finN d s ∧ ∀ x, x < letN d → toN (quoD d) c x = clsOf d (toN d s x) := by
 obtain ⟨s, h1, h2, h3, h4⟩ := quoN_at (itF_length d d.next.length) (itF_can d _) d.next.length (Nat.le_refl _) c hc
 refine ⟨s, h1, h2, ?_, ?_⟩
 ·show (quoN d (itF d d.next.length) d.next.length).2.getD c false = _
  rw [List.getD_eq_getElem?_getD, h4]; rfl
 ·intro x hx
  have hrow : (quoD d).next.getD c [] = (rowK (itF d d.next.length) (d.next.getD s [])).map fun c : Nat => (c : Int) := by
   show (quoN d (itF d d.next.length) d.next.length).1.getD c [] = _
   rw [List.getD_eq_getElem?_getD, h3]; rfl
  have hls : (d.next.getD s []).length = letN d := by simp [h1]; exact hv.len _ (List.getElem_mem h1)
  have hx' : x < (d.next.getD s []).length := by omega
  have e1 : (d.next.getD s []).getD x 0 = (d.next.getD s [])[x] := by rw [List.getD_eq_getElem?_getD, List.getElem?_eq_getElem hx']; rfl
  rw [toN, hrow, List.getD_eq_getElem?_getD, List.getElem?_map, rowK, List.getElem?_map, List.getElem?_eq_getElem hx']
  show (((itF d d.next.length).getD (d.next.getD s [])[x].toNat 0 : Nat) : Int).toNat = clsOf d (toN d s x)
  rw [Int.toNat_natCast, clsOf, toN, e1]
theorem quoD_step {d : DFA} (hv : Val d) {s x : Nat} (hs : s < d.next.length) (hx : x < letN d) : toN (quoD d) (clsOf d s) x = clsOf d (toN d s x) := by
 obtain ⟨s', h1, h2, _, h4⟩ := quoD_at hv (cls_lt hv hs)
 rw [h4 x hx]
 exact clsOf_next hv h1 hs hx h2
theorem quoD_fin {d : DFA} (hv : Val d) {s : Nat} (hs : s < d.next.length) : finN (quoD d) (clsOf d s) = finN d s := by
 obtain ⟨s', h1, h2, h3, _⟩ := quoD_at hv (cls_lt hv hs)
 rw [h3]; exact clsOf_fin hv h1 hs h2
theorem quoD_run {d : DFA} (hv : Val d) {s : Nat} (hs : s < d.next.length) : ∀ w, Wd d w → runN (quoD d) (clsOf d s) w = clsOf d (runN d s w) := by
 refine snocInd (fun _ => rfl) ?_
 intro w x ih hw
 have hw' : Wd d w := fun y hy => hw y (by simp [hy])
 rw [runN_snoc, runN_snoc, ih hw', quoD_step hv (runN_lt hv hs w hw') (hw x (by simp))]
theorem quoD_start (d : DFA) : (quoD d).start.toNat = clsOf d d.start.toNat := by
 show (((itF d d.next.length).getD d.start.toNat 0 : Nat) : Int).toNat = _
 rw [Int.toNat_natCast]; rfl
theorem order_start {d : DFA} (hv : Val d) : ∃ r, order d = d.start.toNat :: r := by
 have hp := bfsN_prefix d 0 d.next.length (Nat.zero_le _)
 obtain ⟨r, hr⟩ := hp
 exact ⟨r, hr.symm⟩
theorem renum_val {d : DFA} (hv : Val d) : Val (renum d) := by
 obtain ⟨r, hr⟩ := order_start hv
 have hl := order_len hv
 have hpos : 0 < (order d).length := by rw [hr]; simp
 refine ⟨hv.v0, hv.v6, ?_, ?_, Int.le_refl _, ?_, ?_, ?_⟩
 ·simpa [renum] using hpos
 ·simp [renum]
 ·show (0 : Int) < ((renum d).next.length : Nat)
  simp only [renum, List.length_map]; omega
 ·intro r hr
  obtain ⟨o, ho, rfl⟩ := List.mem_map.1 hr
  rw [List.length_map, sucs_length]; rfl
 ·intro r hr x hx
  obtain ⟨o, ho, rfl⟩ := List.mem_map.1 hr
  obtain ⟨t, ht, rfl⟩ := List.mem_map.1 hx
  refine ⟨Int.natCast_nonneg _, ?_⟩
  have := ix_lt (order_closed hv o ho t ht)
  simp only [renum, List.length_map]; omega
theorem renum_step {d : DFA} (hv : Val d) {s x : Nat} (hs : s ∈ order d) (hx : x < letN d) : toN (renum d) (ix s (order d)) x = ix (toN d s x) (order d) := by
 have hg := ix_get hs
 have hrow : (renum d).next.getD (ix s (order d)) [] = (sucs d s).map fun t => ((ix t (order d) : Nat) : Int) := by
  show ((order d).map fun o => (sucs d o).map fun t => ((ix t (order d) : Nat) : Int)).getD _ [] = _
  rw [List.getD_eq_getElem?_getD, List.getElem?_map, hg]; rfl
 rw [toN, hrow, List.getD_eq_getElem?_getD, List.getElem?_map, sucs_get hx]
 show ((ix (toN d s x) (order d) : Nat) : Int).toNat = _
 rw [Int.toNat_natCast]
theorem renum_fin {d : DFA} {s : Nat} (hs : s ∈ order d) : finN (renum d) (ix s (order d)) = finN d s := by
 show ((order d).map fun o => d.final.getD o false).getD _ false = _
 rw [List.getD_eq_getElem?_getD, List.getElem?_map, ix_get hs]; rfl
theorem order_run {d : DFA} (hv : Val d) {s : Nat} (hs : s ∈ order d) : ∀ w, Wd d w → runN d s w ∈ order d := by
 refine snocInd (fun _ => hs) ?_
 intro w x ih hw
 rw [runN_snoc]
 exact order_closed hv _ (ih fun y hy => hw y (by simp [hy])) _ (List.mem_of_getElem? (sucs_get (hw x (by simp))))
theorem renum_run {d : DFA} (hv : Val d) {s : Nat} (hs : s ∈ order d) : ∀ w, Wd d w → runN (renum d) (ix s (order d)) w = ix (runN d s w) (order d) := by
 refine snocInd (fun _ => rfl) ?_
 intro w x ih hw
 have hw' : Wd d w := fun y hy => hw y (by simp [hy])
 rw [runN_snoc, runN_snoc, ih hw', renum_step hv (order_run hv hs w hw') (hw x (by simp))]
theorem start_mem {d : DFA} (hv : Val d) : d.start.toNat ∈ order d := by
 obtain ⟨r, hr⟩ := order_start hv
 rw [hr]; simp
theorem start_ix {d : DFA} (hv : Val d) : ix d.start.toNat (order d) = 0 := by
 obtain ⟨r, hr⟩ := order_start hv
 rw [hr]; simp [ix]
def acc (d : DFA) (w : List Nat) : Bool := finN d (runN d d.start.toNat w)
theorem start_lt {d : DFA} (hv : Val d) : d.start.toNat < d.next.length := by have := hv.s0; have := hv.s1; omega
theorem renum_acc {d : DFA} (hv : Val d) {w : List Nat} (hw : Wd d w) : acc (renum d) w = acc d w := by
 have h := renum_run hv (start_mem hv) w hw
 rw [start_ix hv] at h
 show finN (renum d) (runN (renum d) 0 w) = _
 rw [h, renum_fin (order_run hv (start_mem hv) w hw)]; rfl
theorem quoD_acc {d : DFA} (hv : Val d) {w : List Nat} (hw : Wd d w) : acc (quoD d) w = acc d w := by
 unfold acc
 rw [quoD_start, quoD_run hv (start_lt hv) w hw, quoD_fin hv (runN_lt hv (start_lt hv) w hw)]
theorem minD_val {d : DFA} (hv : Val d) : Val (minD d) := renum_val (quoD_val hv)
theorem renum_fit {d : DFA} (hv : Val d) (h : (order d).length ≤ 4096) : Valid (renum d) := ⟨renum_val hv, by simpa [renum] using h⟩
theorem renum_valid {d : DFA} (hv : Valid d) : Valid (renum d) := renum_fit hv (Nat.le_trans (order_len hv.toVal) hv.n4)
theorem minD_valid {d : DFA} (hv : Valid d) : Valid (minD d) := renum_valid (quoD_valid hv)
theorem minD_acc {d : DFA} (hv : Val d) {w : List Nat} (hw : Wd d w) : acc (minD d) w = acc d w :=
 (renum_acc (quoD_val hv) hw).trans (quoD_acc hv hw)
inductive All2 (ρ : Nat → Nat → Prop) : List Nat → List Nat → Prop
 | nil : All2 ρ [] []
 | cons {a b l m} : ρ a b → All2 ρ l m → All2 ρ (a :: l) (b :: m)
theorem All2.append {ρ : Nat → Nat → Prop} {l m l' m' : List Nat} (h : All2 ρ l m) (h' : All2 ρ l' m') : All2 ρ (l ++ l') (m ++ m') := by
 induction h with
 | nil => exact h'
 | cons h1 _ ih => exact .cons h1 ih
theorem All2.len {ρ : Nat → Nat → Prop} {l m : List Nat} (h : All2 ρ l m) : l.length = m.length := by
 induction h with
 | nil => rfl
 | cons _ _ ih => simp [ih]
theorem All2.get {ρ : Nat → Nat → Prop} {l m : List Nat} (h : All2 ρ l m) : ∀ {i a b : Nat}, l[i]? = some a → m[i]? = some b → ρ a b := by
 induction h with
 | nil => intro i a b h; simp at h
 | cons h1 _ ih =>
  intro i a b ha hb
  cases i with
  | zero => simp at ha hb; subst ha; subst hb; exact h1
  | succ i => exact ih (by simpa using ha) (by simpa using hb)
section
variable {ρ : Nat → Nat → Prop}
def OneOne (ρ : Nat → Nat → Prop) : Prop := ∀ a b a' b', ρ a b → ρ a' b' → (a = a' ↔ b = b')
theorem All2.mem (ho : OneOne ρ) {l m : List Nat} (h : All2 ρ l m) {a b : Nat} (hab : ρ a b) : a ∈ l ↔ b ∈ m := by
 induction h with
 | nil => simp
 | cons h1 _ ih => rw [List.mem_cons, List.mem_cons, ih, ho _ _ _ _ hab h1]
theorem All2.ix (ho : OneOne ρ) {l m : List Nat} (h : All2 ρ l m) {a b : Nat} (hab : ρ a b) : Lx.ix a l = Lx.ix b m := by
 induction h with
 | nil => rfl
 | @cons x y l m h1 _ ih =>
  simp only [Lx.ix, ih]
  by_cases e : a = x
  ·rw [if_pos e, if_pos ((ho _ _ _ _ hab h1).1 e)]
  ·rw [if_neg e, if_neg (fun h => e ((ho _ _ _ _ hab h1).2 h))]
theorem All2.add (ho : OneOne ρ) {l m : List Nat} (h : All2 ρ l m) {a b : Nat} (hab : ρ a b) : All2 ρ (Lx.add l a) (Lx.add m b) := by
 unfold Lx.add
 by_cases e : a ∈ l
 ·rw [if_pos e, if_pos ((h.mem ho hab).1 e)]; exact h
 ·rw [if_neg e, if_neg (fun h9 => e ((h.mem ho hab).2 h9))]; exact h.append (.cons hab .nil)
theorem All2.foldl (ho : OneOne ρ) {xs ys : List Nat} (hx : All2 ρ xs ys) : ∀ {l m : List Nat}, All2 ρ l m → All2 ρ (xs.foldl Lx.add l) (ys.foldl Lx.add m) := by
 induction hx with
 | nil => intro l m h; exact h
 | cons h1 _ ih => intro l m h; exact ih (h.add ho h1)
theorem All2.map {f g : Nat → Nat} : ∀ (l : List Nat), (∀ x ∈ l, ρ (f x) (g x)) → All2 ρ (l.map f) (l.map g)
 | [], _ => .nil
 | x :: l, h => .cons (h x (by simp)) (All2.map l fun y hy => h y (by simp [hy]))
structure Bisim (ρ : Nat → Nat → Prop) (p q : DFA) : Prop where
 vars : p.vars = q.vars
 one : OneOne ρ
 start : ρ p.start.toNat q.start.toNat
 step : ∀ a b x, ρ a b → x < letN p → ρ (toN p a x) (toN q b x)
 fin : ∀ a b, ρ a b → finN p a = finN q b
theorem Bisim.sucs {p q : DFA} (h : Bisim ρ p q) {a b : Nat} (hab : ρ a b) : All2 ρ (sucs p a) (sucs q b) := by
 unfold Lx.sucs
 rw [← h.vars]
 exact All2.map _ fun x hx => h.step a b x hab (List.mem_range.1 hx)
theorem Bisim.bfs {p q : DFA} (h : Bisim ρ p q) : ∀ i, All2 ρ (bfsN p i) (bfsN q i)
 | 0 => .cons h.start .nil
 | i + 1 => by
  have ih := h.bfs i
  have hl := ih.len
  rw [bfsN, bfsN, ← hl]
  by_cases hi : i < (bfsN p i).length
  ·rw [if_pos hi, if_pos hi]
   have hi2 : i < (bfsN q i).length := by omega
   have g1 := List.getElem?_eq_getElem hi
   have g2 := List.getElem?_eq_getElem hi2
   have e1 : (bfsN p i).getD i 0 = (bfsN p i)[i] := by rw [List.getD_eq_getElem?_getD, g1]; rfl
   have e2 : (bfsN q i).getD i 0 = (bfsN q i)[i] := by rw [List.getD_eq_getElem?_getD, g2]; rfl
   rw [e1, e2]
   exact (h.sucs (ih.get g1 g2)).foldl h.one ih
  ·rw [if_neg hi, if_neg hi]; exact ih
theorem Bisim.order {p q : DFA} (h : Bisim ρ p q) (hp : Val p) (hq : Val q) : All2 ρ (order p) (order q) := by
 obtain ⟨N, h1, h2, _⟩ := order_stop hp
 have e1 := order_eq h2 h1
 have hb := h.bfs N
 have h2q : (bfsN q N).length = N := by rw [← hb.len]; exact h2
 have hNq : N ≤ q.next.length := by rw [← h2q]; exact bfsN_len hq N
 rw [e1, order_eq h2q hNq]
 exact hb
theorem Bisim.renum {p q : DFA} (h : Bisim ρ p q) (hp : Val p) (hq : Val q) : renum p = renum q := by
 have ho := h.order hp hq
 have rows : ∀ {l m : List Nat}, All2 ρ l m → (l.map fun o => (Lx.sucs p o).map fun t => ((Lx.ix t (Lx.order p) : Nat) : Int)) = m.map fun o => (Lx.sucs q o).map fun t => ((Lx.ix t (Lx.order q) : Nat) : Int) := by
  intro l m hlm
  induction hlm with
  | nil => rfl
  | cons h1 _ ih =>
   rw [List.map_cons, List.map_cons, ih]
   congr 1
   have hs := h.sucs h1
   have each : ∀ {x y : List Nat}, All2 ρ x y → (x.map fun t => ((Lx.ix t (Lx.order p) : Nat) : Int)) = y.map fun t => ((Lx.ix t (Lx.order q) : Nat) : Int) := by
    intro x y hxy
    induction hxy with
    | nil => rfl
    | cons h2 _ ih2 => rw [List.map_cons, List.map_cons, ih2, ho.ix h.one h2]
   exact each hs
 have fins : ∀ {l m : List Nat}, All2 ρ l m → (l.map fun o => p.final.getD o false) = m.map fun o => q.final.getD o false := by
  intro l m hlm
  induction hlm with
  | nil => rfl
  | cons h1 _ ih => rw [List.map_cons, List.map_cons, ih]; congr 1; exact h.fin _ _ h1
 unfold Lx.renum
 rw [rows ho, fins ho, h.vars]
end
theorem minD_unique {a b : DFA} (ha : Val a) (hb : Val b) (hvars : a.vars = b.vars) (h : ∀ w, Wd a w → acc a w = acc b w) : minD a = minD b := by
 have hwd : ∀ w, Wd a w ↔ Wd b w := fun w => by unfold Wd letN; rw [hvars]
 refine Bisim.renum (ρ := fun c1 c2 => ∃ s t, s < a.next.length ∧ t < b.next.length ∧ clsOf a s = c1 ∧ clsOf b t = c2 ∧ ∀ w, Wd a w → finN a (runN a s w) = finN b (runN b t w)) ⟨hvars, ?_, ?_, ?_, ?_⟩ (quoD_val ha) (quoD_val hb)
 ·rintro c1 c2 c1' c2' ⟨s, t, hs, ht, rfl, rfl, hw⟩ ⟨s', t', hs', ht', rfl, rfl, hw'⟩
  rw [clsOf_iff ha hs hs', clsOf_iff hb ht ht']
  constructor
  ·intro h1 u hu hd
   have hu' := (hwd u).2 hu
   refine h1 u hu' ?_
   unfold dst at *
   rw [hw u hu', hw' u hu']; exact hd
  ·intro h1 u hu hd
   refine h1 u ((hwd u).1 hu) ?_
   unfold dst at *
   rw [← hw u hu, ← hw' u hu]; exact hd
 ·exact ⟨a.start.toNat, b.start.toNat, start_lt ha, start_lt hb, (quoD_start a).symm, (quoD_start b).symm, h⟩
 ·rintro c1 c2 x ⟨s, t, hs, ht, rfl, rfl, hw⟩ hx
  have hxa : x < letN a := hx
  have hxb : x < letN b := by unfold letN at *; rw [← hvars]; exact hxa
  refine ⟨toN a s x, toN b t x, toN_get ha hs hxa, toN_get hb ht hxb, (quoD_step ha hs hxa).symm, (quoD_step hb ht hxb).symm, fun w hww => ?_⟩
  exact hw (x :: w) (fun y hy => by rcases List.mem_cons.1 hy with rfl | hy; exact hxa; exact hww y hy)
 ·rintro c1 c2 ⟨s, t, hs, ht, rfl, rfl, hw⟩
  show finN (quoD a) _ = finN (quoD b) _
  rw [quoD_fin ha hs, quoD_fin hb ht]
  exact hw [] (fun x hx => by cases hx)
end Go.Lx


namespace Go.Lx
end Go.Lx


namespace Go.Lx
def runE (d : DFA) (w : List Nat) : Nat := if checkD d ≠ 0 then checkD d else if 64 < w.length then 4 else if w.any (fun x => decide (2 ^ d.vars.toNat ≤ x)) = true then 1 else 0
def runV (d : DFA) (w : List Nat) : Nat := if runE d w = 0 then runN d d.start.toNat w else 0
def accV (d : DFA) (w : List Nat) : Bool := if runE d w = 0 then finN d (runN d d.start.toNat w) else false
theorem runE_zero {d : DFA} {w : List Nat} : runE d w = 0 ↔ Valid d ∧ w.length ≤ 64 ∧ Wd d w := by
 unfold runE
 by_cases h : checkD d = 0
 ·rw [if_neg (by simp [h])]
  by_cases h2 : 64 < w.length
  ·rw [if_pos h2]; exact ⟨fun h => absurd h (by decide), fun h => by omega⟩
  ·rw [if_neg h2]
   by_cases h3 : w.any (fun x => decide (2 ^ d.vars.toNat ≤ x)) = true
   ·rw [if_pos h3]
    refine ⟨fun h => absurd h (by decide), fun h => ?_⟩
    obtain ⟨x, hx, hx2⟩ := List.any_eq_true.1 h3
    have := h.2.2 x hx
    simp at hx2
    unfold letN at this
    omega
   ·rw [if_neg h3]
    refine ⟨fun _ => ⟨checkD_zero.1 h, by omega, fun x hx => ?_⟩, fun _ => rfl⟩
    rcases Nat.lt_or_ge x (letN d) with h4 | h4
    ·exact h4
    ·exact absurd (List.any_eq_true.2 ⟨x, hx, decide_eq_true h4⟩) h3
 ·rw [if_pos h]; exact ⟨fun e => absurd e h, fun hh => absurd (checkD_zero.2 hh.1) h⟩
theorem runN_take {d : DFA} {s : Nat} {w : List Nat} {k : Nat} (hk : k < w.length) : runN d s (w.take (k + 1)) = toN d (runN d s (w.take k)) w[k] := by
 rw [List.take_succ_eq_append_getElem hk, runN_snoc]
end Go.Lx


namespace Go.Lx
theorem bfsN_reach {d : DFA} (hv : Val d) : ∀ i, ∀ o ∈ bfsN d i, ∃ w, Wd d w ∧ runN d d.start.toNat w = o
 | 0, o, h => by
  simp only [bfsN, List.mem_singleton] at h
  subst h
  exact ⟨[], fun x hx => (List.not_mem_nil hx).elim, rfl⟩
 | i + 1, o, h => by
  rw [bfsN] at h
  split at h
  ·rename_i hi
   rcases (mem_foldl_add _ _).1 h with h | h
   ·exact bfsN_reach hv i o h
   ·obtain ⟨x, hx, rfl⟩ := List.mem_map.1 h
    have hm : (bfsN d i).getD i 0 ∈ bfsN d i := by
     rw [List.getD_eq_getElem?_getD, List.getElem?_eq_getElem hi]; exact List.getElem_mem hi
    obtain ⟨w, hw, he⟩ := bfsN_reach hv i _ hm
    refine ⟨w ++ [x], fun y hy => ?_, by rw [runN_snoc, he]⟩
    rcases List.mem_append.1 hy with hy | hy
    ·exact hw y hy
    ·rw [List.mem_singleton.1 hy]; exact List.mem_range.1 hx
  ·exact bfsN_reach hv i o h
theorem map_nodup {f : Nat → Nat} : ∀ {l : List Nat}, l.Nodup → (∀ a ∈ l, ∀ b ∈ l, f a = f b → a = b) → (l.map f).Nodup
 | [], _, _ => List.nodup_nil
 | a :: l, hn, hi => by
  obtain ⟨h1, h2⟩ := List.nodup_cons.1 hn
  rw [List.map_cons, List.nodup_cons]
  refine ⟨fun hm => ?_, map_nodup h2 fun x hx y hy => hi x (by simp [hx]) y (by simp [hy])⟩
  obtain ⟨y, hy, e⟩ := List.mem_map.1 hm
  have := hi a (by simp) y (by simp [hy]) e.symm
  exact h1 (this ▸ hy)
theorem minD_renum {d : DFA} (hv : Val d) : minD (renum d) = minD d := minD_unique (renum_val hv) hv rfl fun w hw => renum_acc hv hw
theorem minD_min {d : DFA} (hv : Val d) : minD (minD d) = minD d := minD_unique (minD_val hv) hv rfl fun w hw => minD_acc hv hw
theorem minV_valid {d : DFA} (hv : Valid d) : minV d = minD d := by unfold minV; rw [if_pos (checkD_zero.2 hv)]
end Go.Lx


namespace Go.Lx
open Go.RowKit
def prRow (a b : DFA) (s t : Nat) : List Int := (List.range (letN a)).map fun x => ((toN a s x * b.next.length + toN b t x : Nat) : Int)
def prNext (a b : DFA) : List (List Int) := (List.range (a.next.length * b.next.length)).map fun c => prRow a b (c / b.next.length) (c % b.next.length)
def prFin (f : Bool → Bool → Bool) (a b : DFA) : List Bool := (List.range (a.next.length * b.next.length)).map fun c => f (finN a (c / b.next.length)) (finN b (c % b.next.length))
def prodD (f : Bool → Bool → Bool) (a b : DFA) : DFA := ⟨a.vars, ((a.start.toNat * b.next.length + b.start.toNat : Nat) : Int), prNext a b, prFin f a b⟩
theorem pr_div {n s t : Nat} (ht : t < n) : (s * n + t) / n = s ∧ (s * n + t) % n = t := by
 rw [Nat.mul_comm]
 exact ⟨by rw [Nat.mul_add_div (by omega), Nat.div_eq_of_lt ht, Nat.add_zero], by rw [Nat.mul_add_mod, Nat.mod_eq_of_lt ht]⟩
theorem pr_lt {n k s t : Nat} (hs : s < k) (ht : t < n) : s * n + t < k * n := by
 have := Nat.mul_le_mul_right n (show s + 1 ≤ k by omega); rw [Nat.succ_mul] at this; omega
theorem pr_split {n k c : Nat} (h : c < k * n) : c / n < k ∧ c % n < n := by
 have hn : 0 < n := by
  rcases Nat.eq_zero_or_pos n with h0 | h0
  ·rw [h0, Nat.mul_zero] at h; exact absurd h (Nat.not_lt_zero _)
  ·exact h0
 exact ⟨(Nat.div_lt_iff_lt_mul hn).2 h, Nat.mod_lt _ hn⟩
theorem prod_len (f : Bool → Bool → Bool) (a b : DFA) : (prodD f a b).next.length = a.next.length * b.next.length := by
 show (prNext a b).length = _; unfold prNext; simp
theorem prod_val {f : Bool → Bool → Bool} {a b : DFA} (ha : Val a) (hb : Val b) (hv : a.vars = b.vars) : Val (prodD f a b) := by
 have a0 := start_lt ha; have b0 := start_lt hb
 have hlt := pr_lt a0 b0
 refine { v0 := ha.v0, v6 := ha.v6, n0 := ?_, fin := ?_, s0 := ?_, s1 := ?_, len := ?_, ok := ?_ }
 ·rw [prod_len]; omega
 ·rw [prod_len]; show (prFin f a b).length = _; unfold prFin; simp
 ·show (0 : Int) ≤ ((_ : Nat) : Int); omega
 ·rw [prod_len]; show ((_ : Nat) : Int) < ((_ : Nat) : Int); omega
 ·intro r hr
  obtain ⟨c, _, rfl⟩ := List.mem_map.1 (show r ∈ prNext a b from hr)
  unfold prRow; simp; rfl
 ·intro r hr x hx
  obtain ⟨c, hc, rfl⟩ := List.mem_map.1 (show r ∈ prNext a b from hr)
  obtain ⟨y, hy, rfl⟩ := List.mem_map.1 (show x ∈ prRow a b _ _ from hx)
  rw [List.mem_range] at hc hy
  obtain ⟨h1, h2⟩ := pr_split hc
  have h3 := (ha.toN_lt h1 hy).1
  have h4 := (hb.toN_lt h2 (by rw [← hv]; exact hy)).1
  have := pr_lt h3 h4
  rw [prod_len]; omega
theorem prod_valid {f : Bool → Bool → Bool} {a b : DFA} (ha : Val a) (hb : Val b) (hv : a.vars = b.vars) (hn : a.next.length * b.next.length ≤ 4096) : Valid (prodD f a b) := ⟨prod_val ha hb hv, by rw [prod_len]; exact hn⟩
theorem prod_fin {f : Bool → Bool → Bool} {a b : DFA} {s t : Nat} (hs : s < a.next.length) (ht : t < b.next.length) : finN (prodD f a b) (s * b.next.length + t) = f (finN a s) (finN b t) := by
 have hd := pr_div (s := s) ht
 have hc := pr_lt hs ht
 show (prFin f a b).getD _ false = _
 unfold prFin
 rw [List.getD_eq_getElem?_getD, List.getElem?_map, List.getElem?_range hc]
 simp only [Option.map_some, Option.getD_some, hd.1, hd.2]
theorem prod_step {f : Bool → Bool → Bool} {a b : DFA} {s t x : Nat} (hs : s < a.next.length) (ht : t < b.next.length) (hx : x < letN a) : toN (prodD f a b) (s * b.next.length + t) x = toN a s x * b.next.length + toN b t x := by
 have hd := pr_div (s := s) ht
 have hc := pr_lt hs ht
 show (((prNext a b).getD _ []).getD x 0).toNat = _
 unfold prNext
 rw [List.getD_eq_getElem?_getD (l := List.map _ _), List.getElem?_map, List.getElem?_range hc]
 simp only [Option.map_some, Option.getD_some, hd.1, hd.2]
 unfold prRow
 rw [List.getD_eq_getElem?_getD, List.getElem?_map, List.getElem?_range hx]
 exact Int.toNat_natCast _
theorem prod_run {f : Bool → Bool → Bool} {a b : DFA} (ha : Val a) (hb : Val b) (hv : a.vars = b.vars) {s t : Nat} (hs : s < a.next.length) (ht : t < b.next.length) : ∀ w, Wd a w → runN (prodD f a b) (s * b.next.length + t) w = runN a s w * b.next.length + runN b t w := by
 refine snocInd (fun _ => rfl) ?_
 intro w x ih hw
 have hw1 : Wd a w := fun y hy => hw y (by simp [hy])
 have hw2 : Wd b w := fun y hy => by have := hw1 y hy; unfold letN at this ⊢; rw [← hv]; exact this
 rw [runN_snoc, runN_snoc, runN_snoc, ih hw1, prod_step (runN_lt ha hs w hw1) (runN_lt hb ht w hw2) (hw x (by simp))]
theorem prod_acc {f : Bool → Bool → Bool} {a b : DFA} (ha : Val a) (hb : Val b) (hv : a.vars = b.vars) {w : List Nat} (hw : Wd a w) : acc (prodD f a b) w = f (acc a w) (acc b w) := by
 have a0 := start_lt ha; have b0 := start_lt hb
 have hw2 : Wd b w := fun y hy => by have := hw y hy; unfold letN at this ⊢; rw [← hv]; exact this
 unfold acc
 rw [show (prodD f a b).start.toNat = a.start.toNat * b.next.length + b.start.toNat from Int.toNat_natCast _, prod_run ha hb hv a0 b0 w hw, prod_fin (runN_lt ha a0 w hw) (runN_lt hb b0 w hw2)]
def opD (f : Bool → Bool → Bool) (a b : DFA) : DFA := minD (prodD f a b)
theorem opD_valid {f : Bool → Bool → Bool} {a b : DFA} (ha : Val a) (hb : Val b) (hv : a.vars = b.vars) (hn : a.next.length * b.next.length ≤ 4096) : Valid (opD f a b) := minD_valid (prod_valid ha hb hv hn)
theorem opD_acc {f : Bool → Bool → Bool} {a b : DFA} (ha : Val a) (hb : Val b) (hv : a.vars = b.vars) (hn : a.next.length * b.next.length ≤ 4096) {w : List Nat} (hw : Wd a w) : acc (opD f a b) w = f (acc a w) (acc b w) := by
 unfold opD; rw [minD_acc (prod_val ha hb hv) hw, prod_acc ha hb hv hw]
theorem opD_min {f : Bool → Bool → Bool} {a b : DFA} (ha : Val a) (hb : Val b) (hv : a.vars = b.vars) (hn : a.next.length * b.next.length ≤ 4096) : minD (opD f a b) = opD f a b := minD_min (prod_val ha hb hv)
theorem opD_accW {f : Bool → Bool → Bool} {a b : DFA} (ha : Val a) (hb : Val b) (hv : a.vars = b.vars) {w : List Nat} (hw : Wd a w) : acc (opD f a b) w = f (acc a w) (acc b w) := by
 unfold opD; rw [minD_acc (prod_val ha hb hv) hw, prod_acc ha hb hv hw]
theorem opD_minW {f : Bool → Bool → Bool} {a b : DFA} (ha : Val a) (hb : Val b) (hv : a.vars = b.vars) : minD (opD f a b) = opD f a b := minD_min (prod_val ha hb hv)
theorem opD_ofW {f : Bool → Bool → Bool} {a b d : DFA} (ha : Val a) (hb : Val b) (hv : a.vars = b.vars) (hd : Val d) (hdv : d.vars = a.vars) (h : ∀ w, Wd a w → acc d w = f (acc a w) (acc b w)) : minD d = opD f a b :=
 minD_unique hd (prod_val ha hb hv) hdv fun w hw => by
  have hw' : Wd a w := fun y hy => by have := hw y hy; unfold letN at this ⊢; rw [← hdv]; exact this
  rw [h w hw', prod_acc ha hb hv hw']
theorem minD_len {d : DFA} (hv : Val d) : (minD d).next.length ≤ d.next.length := by
 have h1 : (minD d).next.length ≤ (quoD d).next.length := by
  show (renum (quoD d)).next.length ≤ _
  unfold renum
  rw [List.length_map]; exact order_len (quoD_val hv)
 have h2 := (quoN_len d (itF d d.next.length) d.next.length).2
 exact Nat.le_trans h1 h2
theorem opD_len {f : Bool → Bool → Bool} {a b : DFA} (ha : Val a) (hb : Val b) (hv : a.vars = b.vars) (hn : a.next.length * b.next.length ≤ 4096) : (opD f a b).next.length ≤ a.next.length * b.next.length := by
 rw [← prod_len f a b]; exact minD_len (prod_val ha hb hv)
theorem min_ext {a b : DFA} (ha : Val a) (hb : Val b) (hma : minD a = a) (hmb : minD b = b) (hv : a.vars = b.vars) (h : ∀ w, Wd a w → acc a w = acc b w) : a = b := by
 rw [← hma, ← hmb]; exact minD_unique ha hb hv h
def flipD (d : DFA) : DFA := ⟨d.vars, d.start, d.next, d.final.map (!·)⟩
theorem flip_val {d : DFA} (hv : Val d) : Val (flipD d) :=
 { v0 := hv.v0, v6 := hv.v6, n0 := hv.n0, fin := by show (d.final.map _).length = _; rw [List.length_map]; exact hv.fin, s0 := hv.s0, s1 := hv.s1, len := hv.len, ok := hv.ok }
theorem flip_valid {d : DFA} (hv : Valid d) : Valid (flipD d) := ⟨flip_val hv, hv.n4⟩
theorem flip_fin {d : DFA} (hv : Val d) {s : Nat} (hs : s < d.next.length) : finN (flipD d) s = !finN d s := by
 have hl : s < d.final.length := by rw [hv.fin]; exact hs
 show (d.final.map _).getD s false = _
 unfold finN
 rw [List.getD_eq_getElem?_getD, List.getD_eq_getElem?_getD, List.getElem?_map, List.getElem?_eq_getElem hl]
 rfl
theorem flip_acc {d : DFA} (hv : Val d) {w : List Nat} (hw : Wd d w) : acc (flipD d) w = !acc d w := by
 unfold acc
 have hr : ∀ u s, runN (flipD d) s u = runN d s u := fun u s => rfl
 rw [hr]
 exact flip_fin hv (runN_lt hv (start_lt hv) w hw)
end Go.Lx


namespace Go.Lx
theorem dif_short {d : DFA} (hv : Val d) {s t : Nat} (hs : s < d.next.length) (ht : t < d.next.length) (m : Nat) (h : dif d m s t = true) : dif d (d.next.length - 1) s t = true := by
 have hn := hv.n0
 have key : itF d (d.next.length - 1) = itF d d.next.length := by
  rcases itF_grow hv (d.next.length - 1) with ⟨j, hj, h⟩ | h
  ·have hst : refineF d (itF d j) = itF d j := by rw [← itF]; exact h
   rw [itF_stable hst _ (show j ≤ d.next.length - 1 by omega), itF_stable hst _ (show j ≤ d.next.length by omega)]
  ·obtain ⟨h1, h2⟩ := clsN_step hv (d.next.length - 1)
   have h3 := clsN_le d (d.next.length - 1 + 1)
   have h4 := h2 (by omega)
   rw [show d.next.length - 1 + 1 = d.next.length by omega] at h4
   exact h4.symm
 rcases Bool.eq_false_or_eq_true (dif d (d.next.length - 1) s t) with hh | hh
 ·exact hh
 ·rw [← itF_iff hv _ s t hs ht, key] at hh
  have h5 : dif d (max m d.next.length) s t = true := dif_mono (by omega) h
  have h6 := (itF_iff hv (max m d.next.length) s t hs ht).1 (by rw [itF_stab hv _ (by omega)]; exact hh)
  rw [h6] at h5; cases h5
theorem Tell.lt {d : DFA} (hv : Val d) {s t : Nat} (hs : s < d.next.length) (ht : t < d.next.length) {u : List Nat} (h : Tell d s t (some u)) : u.length < d.next.length := by
 have h : IsLeast d s t u := h
 have hd := dif_short hv hs ht u.length ((dif_iff d _ s t).2 ⟨u, h.wd, Nat.le_refl _, h.dst⟩)
 obtain ⟨w, h1, h2, h3⟩ := (dif_iff d _ s t).1 hd
 have := code_len u w (hv.wd64 h.wd) (hv.wd64 h1) (h.le w h1 h3)
 have := hv.n0
 omega
theorem minD_apart {d : DFA} (hv : Val d) {p q : Nat} (hp : p < (minD d).next.length) (hq : q < (minD d).next.length) {res : Option (List Nat)} (h : Tell (minD d) p q res) : res.isSome = true ↔ p ≠ q := by
 have hQ := quoD_val hv
 have hpo : p < (order (quoD d)).length := by simpa [minD, renum, quoD] using hp
 have hqo : q < (order (quoD d)).length := by simpa [minD, renum, quoD] using hq
 constructor
 ·intro hs e
  subst e
  cases res with
  | none => cases hs
  | some u => exact (show IsLeast (minD d) p p u from h).dst rfl
 ·intro hne
  cases res with
  | some u => rfl
  | none =>
   exfalso
   have hnd : (order (quoD d)).Nodup := (bfsN_ok hQ _).1
   have hix : ∀ i (hi : i < (order (quoD d)).length), ix (order (quoD d))[i] (order (quoD d)) = i := fun i hi => by
    have g := ix_get (List.getElem_mem hi)
    exact (List.getElem_inj (h₀ := ix_lt (List.getElem_mem hi)) (h₁ := hi) hnd).1 (Option.some.inj (by rw [← List.getElem?_eq_getElem, g]))
   obtain ⟨a, ha, hac, _, _⟩ := quoD_at hv (order_lt hQ _ (List.getElem_mem hpo))
   obtain ⟨b, hb, hbc, _, _⟩ := quoD_at hv (order_lt hQ _ (List.getElem_mem hqo))
   have hab : clsOf d a = clsOf d b := by
    rw [clsOf_iff hv ha hb]
    intro u hu hd
    have hn := (show ∀ u, Wd (minD d) u → ¬ dst (minD d) p q u from h) u hu
    apply hn
    have r1 := renum_run hQ (List.getElem_mem hpo) u hu
    have r2 := renum_run hQ (List.getElem_mem hqo) u hu
    rw [hix p hpo] at r1
    rw [hix q hqo] at r2
    unfold dst at *
    show finN (renum (quoD d)) (runN (renum (quoD d)) p u) ≠ finN (renum (quoD d)) (runN (renum (quoD d)) q u)
    rw [r1, r2, renum_fin (order_run hQ (List.getElem_mem hpo) u hu), renum_fin (order_run hQ (List.getElem_mem hqo) u hu), ← hac, ← hbc, quoD_run hv ha u hu, quoD_run hv hb u hu, quoD_fin hv (runN_lt hv ha u hu), quoD_fin hv (runN_lt hv hb u hu)]
    exact hd
   rw [hac, hbc] at hab
   exact hne ((List.getElem_inj (h₀ := hpo) (h₁ := hqo) hnd).1 hab)
end Go.Lx


namespace Go.Lx
def both (a b : DFA) : DFA := ⟨a.vars, a.start, a.next ++ b.next.map fun r => r.map fun x => (a.next.length : Int) + x, a.final ++ b.final⟩
theorem both_len (a b : DFA) : (both a b).next.length = a.next.length + b.next.length := by simp [both]
theorem both_valid {a b : DFA} (ha : Valid a) (hb : Valid b) (hv : a.vars = b.vars) (hn : a.next.length + b.next.length ≤ 4096) : Valid (both a b) := by
 refine ⟨⟨ha.v0, ha.v6, ?_, ?_, ha.s0, ?_, ?_, ?_⟩, by rw [both_len]; exact hn⟩
 ·rw [both_len]; have := ha.n0; omega
 ·rw [both_len]; show (a.final ++ b.final).length = _; rw [List.length_append, ha.fin, hb.fin]
 ·rw [both_len]; show a.start < _; have := ha.s1; omega
 ·intro r hr
  rcases List.mem_append.1 hr with hr | hr
  ·exact ha.len r hr
  ·obtain ⟨r', hr', rfl⟩ := List.mem_map.1 hr
   rw [List.length_map, hb.len r' hr']
   show 2 ^ b.vars.toNat = 2 ^ a.vars.toNat
   rw [hv]
 ·intro r hr x hx
  rw [both_len]
  rcases List.mem_append.1 hr with hr | hr
  ·have := ha.ok r hr x hx; omega
  ·obtain ⟨r', hr', rfl⟩ := List.mem_map.1 hr
   obtain ⟨y, hy, rfl⟩ := List.mem_map.1 hx
   have := hb.ok r' hr' y hy
   omega
theorem both_left {a b : DFA} (ha : Valid a) {s : Nat} (hs : s < a.next.length) : finN (both a b) s = finN a s ∧ ∀ x, x < letN a → toN (both a b) s x = toN a s x := by
 have hf : s < a.final.length := by rw [ha.fin]; exact hs
 refine ⟨?_, fun x hx => ?_⟩
 ·show (a.final ++ b.final).getD s false = _
  rw [List.getD_eq_getElem?_getD, List.getElem?_append_left hf, finN, List.getD_eq_getElem?_getD]
 ·have e : (both a b).next.getD s [] = a.next.getD s [] := by
   show (a.next ++ _).getD s [] = _
   simp [List.getD_eq_getElem?_getD, List.getElem?_append_left hs]
  unfold toN
  rw [e]
theorem both_right {a b : DFA} (ha : Valid a) (hb : Valid b) (hv : a.vars = b.vars) {t : Nat} (ht : t < b.next.length) : finN (both a b) (a.next.length + t) = finN b t ∧ ∀ x, x < letN a → toN (both a b) (a.next.length + t) x = a.next.length + toN b t x := by
 refine ⟨?_, fun x hx => ?_⟩
 ·show (a.final ++ b.final).getD _ false = _
  rw [List.getD_eq_getElem?_getD, List.getElem?_append_right (by rw [ha.fin]; omega), ha.fin, finN, List.getD_eq_getElem?_getD, Nat.add_sub_cancel_left]
 ·have hxb : x < letN b := by unfold letN at *; rw [← hv]; exact hx
  have hl : b.next[t].length = letN b := hb.len _ (List.getElem_mem ht)
  have hx' : x < b.next[t].length := by omega
  have hok := hb.ok _ (List.getElem_mem ht) _ (List.getElem_mem hx')
  have e : (both a b).next.getD (a.next.length + t) [] = b.next[t].map fun x => (a.next.length : Int) + x := by
   show (a.next ++ _).getD _ [] = _
   rw [List.getD_eq_getElem?_getD, List.getElem?_append_right (by omega), Nat.add_sub_cancel_left]
   simp [ht]
  unfold toN
  rw [e]
  simp [ht, hx', List.getD_eq_getElem?_getD]
  omega
theorem both_runL {a b : DFA} (ha : Valid a) {s : Nat} (hs : s < a.next.length) : ∀ w, Wd a w → runN (both a b) s w = runN a s w := by
 refine snocInd (fun _ => rfl) ?_
 intro w x ih hw
 have hw' : Wd a w := fun y hy => hw y (by simp [hy])
 rw [runN_snoc, runN_snoc, ih hw', (both_left ha (runN_lt ha hs w hw')).2 x (hw x (by simp))]
theorem both_runR {a b : DFA} (ha : Valid a) (hb : Valid b) (hv : a.vars = b.vars) {t : Nat} (ht : t < b.next.length) : ∀ w, Wd a w → runN (both a b) (a.next.length + t) w = a.next.length + runN b t w := by
 refine snocInd (fun _ => rfl) ?_
 intro w x ih hw
 have hw' : Wd a w := fun y hy => hw y (by simp [hy])
 have hwb : Wd b w := fun y hy => by have := hw' y hy; unfold letN at *; rw [← hv]; exact this
 rw [runN_snoc, runN_snoc, ih hw', (both_right ha hb hv (runN_lt hb ht w hwb)).2 x (hw x (by simp))]
theorem both_dst {a b : DFA} (ha : Valid a) (hb : Valid b) (hv : a.vars = b.vars) {w : List Nat} (hw : Wd a w) : dst (both a b) a.start.toNat (a.next.length + b.start.toNat) w ↔ acc a w ≠ acc b w := by
 have hwb : Wd b w := fun y hy => by have := hw y hy; unfold letN at *; rw [← hv]; exact this
 unfold dst acc
 rw [both_runL ha (start_lt ha) w hw, both_runR ha hb hv (start_lt hb) w hw, (both_left ha (runN_lt ha (start_lt ha) w hw)).1, (both_right ha hb hv (runN_lt hb (start_lt hb) w hwb)).1]
theorem accV_zero {d : DFA} {w : List Nat} (h : runE d w = 0) : accV d w = acc d w := by unfold accV acc; rw [if_pos h]
end Go.Lx


namespace Go.Lx
open Go.RowKit
def stayD (v : Int) (f : Bool) : DFA := ⟨v, 0, [List.replicate (2 ^ v.toNat) 0], [f]⟩
theorem stay_valid {v : Int} (h0 : 0 ≤ v) (h6 : v ≤ 6) (f : Bool) : Valid (stayD v f) := by
 have n0 : 0 < (stayD v f).next.length := by show 0 < [_].length; simp
 have s1 : (stayD v f).start < ((stayD v f).next.length : Int) := by show (0 : Int) < (([_].length : Nat) : Int); simp
 have len : ∀ r ∈ (stayD v f).next, r.length = 2 ^ (stayD v f).vars.toNat := by
  intro r hr
  rw [List.mem_singleton.1 (show r ∈ [List.replicate (2 ^ v.toNat) (0 : Int)] from hr), List.length_replicate]; rfl
 have ok : ∀ r ∈ (stayD v f).next, ∀ x ∈ r, 0 ≤ x ∧ x < ((stayD v f).next.length : Int) := by
  intro r hr x hx
  rw [List.mem_singleton.1 (show r ∈ [List.replicate (2 ^ v.toNat) (0 : Int)] from hr)] at hx
  rw [List.eq_of_mem_replicate hx]
  exact ⟨Int.le_refl _, by show (0 : Int) < (([_].length : Nat) : Int); simp⟩
 exact ⟨{ v0 := h0, v6 := h6, n0 := n0, fin := rfl, s0 := Int.le_refl _, s1 := s1, len := len, ok := ok }, by show [_].length ≤ 4096; simp⟩
theorem stay_acc {v : Int} (h0 : 0 ≤ v) (h6 : v ≤ 6) (f : Bool) {w : List Nat} (hw : Wd (stayD v f) w) : acc (stayD v f) w = f := by
 have hv := stay_valid h0 h6 f
 have h1 := runN_lt hv (start_lt hv) w hw
 have h2 : runN (stayD v f) (stayD v f).start.toNat w = 0 := Nat.lt_one_iff.1 h1
 unfold acc; rw [h2]; rfl
def LeastA (d : DFA) : Option (List Nat) → Prop
 | some w => Wd d w ∧ acc d w = true ∧ ∀ u, Wd d u → acc d u = true → code w ≤ code u
 | none => ∀ u, Wd d u → acc d u = false
theorem LeastA.congr {d e : DFA} (hv : d.vars = e.vars) (h : ∀ w, Wd d w → acc d w = acc e w) {r : Option (List Nat)} (hr : LeastA d r) : LeastA e r := by
 have hwd : ∀ w, Wd e w → Wd d w := fun w hw y hy => by have := hw y hy; unfold letN at *; rw [hv]; exact this
 have hwe : ∀ w, Wd d w → Wd e w := fun w hw y hy => by have := hw y hy; unfold letN at *; rw [← hv]; exact this
 cases r with
 | none => exact fun u hu => by rw [← h u (hwd u hu)]; exact hr u (hwd u hu)
 | some w => exact ⟨hwe w hr.1, by rw [← h w hr.1]; exact hr.2.1, fun u hu hau => hr.2.2 u (hwd u hu) (by rw [h u (hwd u hu)]; exact hau)⟩
end Go.Lx


namespace Go.Lx
open Go.RowKit
def WdV (v : Int) (w : List Nat) : Prop := ∀ x ∈ w, x < 2 ^ v.toNat
structure HasL (v : Int) (n : Nat) (d : DFA) (p : List Nat → Bool) : Prop where
 valid : Valid d
 len : d.next.length ≤ n
 vars : d.vars = v
 acc : ∀ w, WdV v w → acc d w = p w
theorem HasL.of {d : DFA} {n : Nat} (h : Valid d) (hl : d.next.length ≤ n) : HasL d.vars n d (Lx.acc d) := ⟨h, hl, rfl, fun _ _ => rfl⟩
theorem HasL.wd {v : Int} {n : Nat} {d : DFA} {p : List Nat → Bool} (h : HasL v n d p) {w : List Nat} : Wd d w ↔ WdV v w := by unfold Wd WdV letN; rw [h.vars]
structure MinL (v : Int) (n : Nat) (d : DFA) (p : List Nat → Bool) : Prop extends HasL v n d p where
 min : minD d = d
theorem HasL.op {f : Bool → Bool → Bool} {v : Int} {n m : Nat} {a b : DFA} {p q : List Nat → Bool} (ha : HasL v n a p) (hb : HasL v m b q) (h : n * m ≤ 4096) : MinL v (n * m) (opD f a b) (fun w => f (p w) (q w)) := by
 have hl : a.next.length * b.next.length ≤ n * m := Nat.mul_le_mul ha.len hb.len
 have hv : a.vars = b.vars := by rw [ha.vars, hb.vars]
 refine ⟨⟨opD_valid ha.valid hb.valid hv (by omega), Nat.le_trans (opD_len ha.valid hb.valid hv (by omega)) hl, ha.vars, fun w hw => ?_⟩, opD_min ha.valid hb.valid hv (by omega)⟩
 rw [opD_acc ha.valid hb.valid hv (by omega) (ha.wd.2 hw), ha.acc w hw, hb.acc w hw]
theorem HasL.minim {v : Int} {n : Nat} {d : DFA} {p : List Nat → Bool} (h : HasL v n d p) : MinL v n (minD d) p :=
 ⟨⟨minD_valid h.valid, Nat.le_trans (minD_len h.valid) h.len, h.vars, fun w hw => by rw [minD_acc h.valid (h.wd.2 hw)]; exact h.acc w hw⟩, minD_min h.valid⟩
theorem MinL.ext {v : Int} {n m : Nat} {a b : DFA} {p q : List Nat → Bool} (ha : MinL v n a p) (hb : MinL v m b q) (h : ∀ w, WdV v w → p w = q w) : a = b :=
 min_ext ha.valid hb.valid ha.min hb.min (by rw [ha.vars, hb.vars]) fun w hw => by rw [ha.acc w (ha.wd.1 hw), hb.acc w (ha.wd.1 hw), h w (ha.wd.1 hw)]
theorem MinL.ne {v : Int} {n m : Nat} {a b : DFA} {p q : List Nat → Bool} (ha : MinL v n a p) (hb : MinL v m b q) (h : a = b) : ∀ w, WdV v w → p w = q w := fun w hw => by
 rw [← ha.acc w hw, ← hb.acc w hw, h]
def andB (x y : Bool) : Bool := x && y
def orB (x y : Bool) : Bool := x || y
def xorB (x y : Bool) : Bool := x != y
def minusB (x y : Bool) : Bool := x && !y
def notB (x _y : Bool) : Bool := !x
def notD (d : DFA) : DFA := opD notB d d
theorem HasL.not {v : Int} {n : Nat} {d : DFA} {p : List Nat → Bool} (h : HasL v n d p) (hn : n * n ≤ 4096) : MinL v (n * n) (notD d) (fun w => !p w) := h.op h hn
end Go.Lx


namespace Go.Lx
open Go.RowKit
theorem stay_min {v : Int} (h0 : 0 ≤ v) (h6 : v ≤ 6) (f : Bool) : MinL v 1 (minD (stayD v f)) (fun _ => f) :=
 (show HasL v 1 (stayD v f) (fun _ => f) from ⟨stay_valid h0 h6 f, by show [_].length ≤ 1; simp, rfl, fun w hw => stay_acc h0 h6 f hw⟩).minim
theorem run_one {d : DFA} (hv : Valid d) (h1 : d.next.length = 1) {w : List Nat} (hw : Wd d w) : runN d d.start.toNat w = 0 := by
 have := runN_lt hv (start_lt hv) w hw; omega
theorem MinL.empty {v : Int} {n : Nat} {d : DFA} {p : List Nat → Bool} (h : MinL v n d p) : (d.next.length = 1 ∧ finN d 0 = false) ↔ ∀ w, WdV v w → p w = false := by
 constructor
 ·rintro ⟨h1, h2⟩ w hw
  rw [← h.acc w hw]
  unfold acc; rw [run_one h.valid h1 (h.wd.2 hw), h2]
 ·intro hp
  have h0 : 0 ≤ v := by rw [← h.vars]; exact h.valid.v0
  have h6 : v ≤ 6 := by rw [← h.vars]; exact h.valid.v6
  have he := MinL.ext h (stay_min h0 h6 false) fun w hw => hp w hw
  have hl : d.next.length = 1 := by
   have a1 := (stay_min h0 h6 false).len; rw [← he] at a1
   have a2 := h.valid.n0; omega
  refine ⟨hl, ?_⟩
  have h2 := h.acc [] (fun x hx => by cases hx)
  rw [hp [] (fun x hx => by cases hx)] at h2
  unfold acc at h2; rw [run_one h.valid hl (fun x hx => by cases hx)] at h2; exact h2
end Go.Lx


namespace Go.Lx
open Go.RowKit
theorem pr_toN_lt {f : Bool → Bool → Bool} {a b : DFA} (ha : Val a) (hb : Val b) (hv : a.vars = b.vars) {o x : Nat} (ho : o < a.next.length * b.next.length) (hx : x < letN a) :
  toN (prodD f a b) o x = toN a (o / b.next.length) x * b.next.length + toN b (o % b.next.length) x ∧ toN (prodD f a b) o x < a.next.length * b.next.length := by
 obtain ⟨h1, h2⟩ := pr_split ho
 have h3 := prod_step (f := f) (a := a) (b := b) h1 h2 hx
 rw [Nat.div_add_mod'] at h3
 refine ⟨h3, ?_⟩
 rw [h3]
 exact pr_lt (ha.toN_lt h1 hx).1 (hb.toN_lt h2 (by rw [← hv]; exact hx)).1
theorem pr_bfs_ok {f : Bool → Bool → Bool} {a b : DFA} (ha : Val a) (hb : Val b) (hv : a.vars = b.vars) : ∀ i, (bfsN (prodD f a b) i).Nodup ∧ ∀ o ∈ bfsN (prodD f a b) i, o < a.next.length * b.next.length
 | 0 => by
  refine ⟨by simp [bfsN], fun o ho => ?_⟩
  simp only [bfsN, List.mem_singleton] at ho
  rw [ho, show (prodD f a b).start.toNat = a.start.toNat * b.next.length + b.start.toNat from Int.toNat_natCast _]
  exact pr_lt (start_lt ha) (start_lt hb)
 | i + 1 => by
  obtain ⟨h1, h2⟩ := pr_bfs_ok ha hb hv i
  rw [bfsN]
  split
  ·rename_i hi
   refine foldl_add_ok _ _ h1 h2 (fun t ht => ?_)
   obtain ⟨x, hx, rfl⟩ := List.mem_map.1 ht
   refine (pr_toN_lt ha hb hv (h2 _ ?_) (List.mem_range.1 hx)).2
   rw [List.getD_eq_getElem?_getD, List.getElem?_eq_getElem hi]
   exact List.getElem_mem hi
  ·exact ⟨h1, h2⟩
theorem pr_bfs_len {f : Bool → Bool → Bool} {a b : DFA} (ha : Val a) (hb : Val b) (hv : a.vars = b.vars) (i : Nat) : (bfsN (prodD f a b) i).length ≤ a.next.length * b.next.length := nodup_bound (pr_bfs_ok ha hb hv i).1 (pr_bfs_ok ha hb hv i).2
theorem pr_bfsM_ok {f : Bool → Bool → Bool} {a b : DFA} (ha : Val a) (hb : Val b) (hv : a.vars = b.vars) {i o x : Nat} (ho : o < a.next.length * b.next.length) (hx : x ≤ letN a) :
  (bfsM (prodD f a b) i o x).Nodup ∧ ∀ t ∈ bfsM (prodD f a b) i o x, t < a.next.length * b.next.length := by
 obtain ⟨h1, h2⟩ := pr_bfs_ok (f := f) ha hb hv i
 exact foldl_add_ok _ _ h1 h2 (fun t ht => by
  obtain ⟨y, hy, rfl⟩ := List.mem_map.1 ht
  exact (pr_toN_lt ha hb hv ho (by have := List.mem_range.1 hy; omega)).2)
theorem pr_bfsM_len {f : Bool → Bool → Bool} {a b : DFA} (ha : Val a) (hb : Val b) (hv : a.vars = b.vars) {i o x : Nat} (ho : o < a.next.length * b.next.length) (hx : x ≤ letN a) :
  (bfsM (prodD f a b) i o x).length ≤ a.next.length * b.next.length := nodup_bound (pr_bfsM_ok ha hb hv ho hx).1 (pr_bfsM_ok ha hb hv ho hx).2
theorem bfsM_full {d : DFA} {i o : Nat} (h : (bfsN d i)[i]? = some o) : bfsM d i o (2 ^ d.vars.toNat) = bfsN d (i + 1) := by rw [bfsN_succ h]; rfl
theorem bfsM_prefix {d : DFA} {i o x : Nat} (h : (bfsN d i)[i]? = some o) (hx : x ≤ 2 ^ d.vars.toNat) : bfsM d i o x <+: bfsN d (i + 1) := by
 rw [← bfsM_full h]
 unfold bfsM
 have h1 : List.range (2 ^ d.vars.toNat) = List.range x ++ (List.range (2 ^ d.vars.toNat)).drop x := by
  have h2 := List.take_append_drop x (List.range (2 ^ d.vars.toNat))
  rw [List.take_range, Nat.min_eq_left hx] at h2
  exact h2.symm
 rw [h1, List.map_append, List.foldl_append]
 exact foldl_prefix _ _
theorem ord_prefix {d : DFA} {i o x : Nat} (h : (bfsN d i)[i]? = some o) (hx : x ≤ 2 ^ d.vars.toNat) (hi : i + 1 ≤ d.next.length) : bfsM d i o x <+: order d :=
 (bfsM_prefix h hx).trans (bfsN_prefix d _ _ hi)
theorem visit_old {d : DFA} {i o x : Nat} (h : (bfsN d i)[i]? = some o) (hx : x ≤ 2 ^ d.vars.toNat) (hi : i + 1 ≤ d.next.length) {t : Nat} (ht : t ∈ bfsM d i o x) : ix t (bfsM d i o x) = ix t (order d) :=
 (ix_prefix (ord_prefix h hx hi) ht).symm
end Go.Lx


namespace Go.Lx
open Go.RowKit
def Det (z a : DFA) : Prop := ∀ u u', WdV z.vars u → WdV z.vars u' → runN z z.start.toNat u = runN z z.start.toNat u' → runN a a.start.toNat u = runN a a.start.toNat u'
def Fac (z : DFA) (p : List Nat → Bool) : Prop := ∀ u u' w, WdV z.vars u → WdV z.vars u' → WdV z.vars w → runN z z.start.toNat u = runN z z.start.toNat u' → p (u ++ w) = p (u' ++ w)
theorem runN_append (d : DFA) (s : Nat) (u w : List Nat) : runN d s (u ++ w) = runN d (runN d s u) w := by simp [runN]
theorem WdV.append {v : Int} {u w : List Nat} (hu : WdV v u) (hw : WdV v w) : WdV v (u ++ w) := fun x hx => (List.mem_append.1 hx).elim (hu x) (hw x)
theorem wd_wdV {d : DFA} {w : List Nat} : Wd d w ↔ WdV d.vars w := Iff.rfl
theorem Det.refl (z : DFA) : Det z z := fun _ _ _ _ h => h
theorem Det.fac {z a : DFA} {n : Nat} {p : List Nat → Bool} (h : Det z a) (ha : HasL z.vars n a p) : Fac z p := fun u u' w hu hu' hw e => by
 rw [← ha.acc _ (hu.append hw), ← ha.acc _ (hu'.append hw)]
 unfold acc
 rw [runN_append, runN_append, h u u' hu hu' e]
theorem Fac.op {z : DFA} {p q : List Nat → Bool} (f : Bool → Bool → Bool) (hp : Fac z p) (hq : Fac z q) : Fac z (fun w => f (p w) (q w)) := fun u u' w hu hu' hw e => by
 show f _ _ = f _ _
 rw [hp u u' w hu hu' hw e, hq u u' w hu hu' hw e]
theorem Det.trans {z y a : DFA} (hv : z.vars = y.vars) (h : Det z y) (h2 : Det y a) : Det z a := fun u u' hu hu' e => h2 u u' (hv ▸ hu) (hv ▸ hu') (h u u' hu hu' e)
theorem Fac.det {z a : DFA} {n : Nat} {p : List Nat → Bool} (h : Fac z p) (ha : MinL z.vars n a p) : Det z a := fun u u' hu hu' e => by
 have hva := ha.valid
 have wu : Wd a u := ha.wd.2 hu
 have wu' : Wd a u' := ha.wd.2 hu'
 have hs := runN_lt hva (start_lt hva) u wu
 have ht := runN_lt hva (start_lt hva) u' wu'
 refine Classical.byContradiction fun hne => ?_
 have hT : Tell (minD a) (runN a a.start.toNat u) (runN a a.start.toNat u') none := fun w hw hd => by
  rw [ha.min] at hw hd
  refine hd ?_
  have hwv : WdV z.vars w := ha.wd.1 hw
  have := h u u' w hu hu' hwv e
  rw [← ha.acc _ (hu.append hwv), ← ha.acc _ (hu'.append hwv)] at this
  unfold acc at this
  rw [runN_append, runN_append] at this
  exact this
 have := (minD_apart hva (by rw [ha.min]; exact hs) (by rw [ha.min]; exact ht) hT).2 hne
 exact absurd this (by simp)
theorem order_fact {d z : DFA} (hd : Val d) (hz : Val z) (hv : z.vars = d.vars) (h : Det z d) : (order d).length ≤ z.next.length := by
 classical
 have hr : ∀ o ∈ order d, ∃ w, Wd d w ∧ runN d d.start.toNat w = o := fun o ho => bfsN_reach hd _ o ho
 let g : Nat → Nat := fun o => if hx : ∃ w, Wd d w ∧ runN d d.start.toNat w = o then runN z z.start.toNat (Classical.choose hx) else 0
 have hg : ∀ o ∈ order d, ∃ w, Wd d w ∧ runN d d.start.toNat w = o ∧ g o = runN z z.start.toNat w := fun o ho => by
  have hx := hr o ho
  refine ⟨Classical.choose hx, (Classical.choose_spec hx).1, (Classical.choose_spec hx).2, ?_⟩
  show (if hx : _ then _ else _) = _
  rw [dif_pos hx]
 have wz : ∀ w, Wd d w → WdV z.vars w := fun w hw => by rw [hv]; exact hw
 have hn : ((order d).map g).Nodup := map_nodup (bfsN_ok hd _).1 fun a ha b hb e => by
  obtain ⟨u, hu, rfl, e1⟩ := hg a ha
  obtain ⟨u', hu', rfl, e2⟩ := hg b hb
  exact h u u' (wz u hu) (wz u' hu') (by rw [← e1, ← e2, e])
 have := nodup_bound (n := z.next.length) hn fun x hx => by
  obtain ⟨o, ho, rfl⟩ := List.mem_map.1 hx
  obtain ⟨u, hu, _, e1⟩ := hg o ho
  rw [e1]
  exact runN_lt hz (start_lt hz) u (wz u hu)
 simpa using this
theorem pr_order_factW {f : Bool → Bool → Bool} {a b z : DFA} (ha : Val a) (hb : Val b) (hv : a.vars = b.vars) (hz : Val z) (hzv : z.vars = a.vars) (h1 : Det z a) (h2 : Det z b) : (order (prodD f a b)).length ≤ z.next.length := by
 refine order_fact (prod_val ha hb hv) hz hzv fun u u' hu hu' e => ?_
 rw [show (prodD f a b).start.toNat = a.start.toNat * b.next.length + b.start.toNat from Int.toNat_natCast _,
  prod_run ha hb hv (start_lt ha) (start_lt hb) u (by rw [wd_wdV, ← hzv]; exact hu), prod_run ha hb hv (start_lt ha) (start_lt hb) u' (by rw [wd_wdV, ← hzv]; exact hu'), h1 u u' hu hu' e, h2 u u' hu hu' e]
end Go.Lx


namespace Go.Lx
open Go.RowKit
def noD : DFA := ⟨0, 0, [], []⟩
def wrongD (a b : DFA) : Nat := if checkD a ≠ 0 then checkD a else if checkD b ≠ 0 then checkD b else if a.vars ≠ b.vars then 7 else 0
def opV (f : Bool → Bool → Bool) (a b : DFA) : DFA := if wrongD a b = 0 then opD f a b else noD
theorem wrongD_zero {a b : DFA} : wrongD a b = 0 ↔ Valid a ∧ Valid b ∧ a.vars = b.vars := by
 unfold wrongD
 rw [← checkD_zero, ← checkD_zero]
 split
 ·rename_i h; constructor
  ·intro e; exact absurd e h
  ·intro e; exact absurd e.1 h
 ·rename_i h1; split
  ·rename_i h; constructor
   ·intro e; exact absurd e h
   ·intro e; exact absurd e.2.1 h
  ·rename_i h2; split
   ·rename_i h; constructor
    ·intro e; exact absurd e (by decide)
    ·intro e; exact absurd e.2.2 h
   ·rename_i h; constructor
    ·intro _; exact ⟨by omega, by omega, Classical.not_not.1 h⟩
    ·intro _; rfl
theorem wrong_first {a b : DFA} (h : checkD a ≠ 0) : wrongD a b = checkD a := by unfold wrongD; rw [if_pos h]
theorem wrong_second {a b : DFA} (h : checkD a = 0) (h2 : checkD b ≠ 0) : wrongD a b = checkD b := by unfold wrongD; rw [if_neg (by omega), if_pos h2]
theorem wrong_vars {a b : DFA} (h : checkD a = 0) (h2 : checkD b = 0) (h3 : a.vars ≠ b.vars) : wrongD a b = 7 := by unfold wrongD; rw [if_neg (by omega), if_neg (by omega), if_pos h3]
theorem opV_ok {f : Bool → Bool → Bool} {a b : DFA} (h : wrongD a b = 0) : opV f a b = opD f a b := by unfold opV; rw [if_pos h]
theorem opV_bad {f : Bool → Bool → Bool} {a b : DFA} (h : wrongD a b ≠ 0) : opV f a b = noD := by unfold opV; rw [if_neg h]
def un (n c : Nat) : Int × Int := (((c / n : Nat) : Int), ((c % n : Nat) : Int))
theorem un_inj {n c e : Nat} (h : un n c = un n e) : c = e := by
 unfold un at h
 simp only [Prod.mk.injEq] at h
 have h1 : c / n = e / n := by omega
 have h2 : c % n = e % n := by omega
 rw [← Nat.div_add_mod c n, ← Nat.div_add_mod e n, h1, h2]
abbrev unC (n c : Nat) : List Value := [.int .i64 ((c / n : Nat) : Int), .int .i64 ((c % n : Nat) : Int)]
def prs (n : Nat) (ks : List Nat) : List Value := ks.flatMap (unC n)
theorem prs_snoc (n : Nat) (ks : List Nat) (c : Nat) : prs n (ks ++ [c]) = prs n ks ++ unC n c := by simp [prs]
theorem prs_len (n : Nat) : ∀ ks : List Nat, (prs n ks).length = ks.length * 2
 | [] => rfl
 | c :: ks => by
  have := prs_len n ks
  simp only [prs, List.flatMap_cons, List.length_append, List.length_cons, List.length_nil] at this ⊢
  omega
theorem prs_get {n : Nat} : ∀ {ks : List Nat} {i c : Nat}, ks[i]? = some c → ∀ j (h : j < (unC n c).length), (prs n ks)[i * 2 + j]? = some (unC n c)[j]
 | [], i, c, h, _, _ => by simp at h
 | e :: ks, 0, c, h, j, hj => by
  simp only [List.getElem?_cons_zero, Option.some.injEq] at h
  subst h
  rw [Nat.zero_mul, Nat.zero_add, show prs n (e :: ks) = unC n e ++ prs n ks from rfl, List.getElem?_append_left hj]
  exact List.getElem?_eq_getElem hj
 | e :: ks, i + 1, c, h, j, hj => by
  rw [show prs n (e :: ks) = unC n e ++ prs n ks from rfl, List.getElem?_append_right (by show 2 ≤ _; omega), show (i + 1) * 2 + j - (unC n e).length = i * 2 + j by show (i + 1) * 2 + j - 2 = _; omega]
  exact prs_get (by simpa using h) j hj
abbrev pmap (n : Nat) (ks : List Nat) : List ((Int × Int) × Nat) := (ks.map (un n)).zipIdx
theorem un_mem {n c : Nat} {ks : List Nat} : un n c ∈ ks.map (un n) ↔ c ∈ ks := by
 constructor
 ·intro h
  obtain ⟨e, he, h2⟩ := List.mem_map.1 h
  rw [← un_inj h2]; exact he
 ·exact fun h => List.mem_map_of_mem h
theorem un_ix (n c : Nat) : ∀ ks : List Nat, ix (un n c) (ks.map (un n)) = ix c ks
 | [] => rfl
 | e :: ks => by
  simp only [List.map_cons, ix, un_ix n c ks]
  by_cases h : c = e
  ·rw [h]; simp
  ·rw [if_neg (fun h2 => h (un_inj h2)), if_neg h]
theorem pmap_snoc (n : Nat) (ks : List Nat) (c : Nat) : pmap n (ks ++ [c]) = pmap n ks ++ [(un n c, ks.length)] := by
 show ((ks ++ [c]).map (un n)).zipIdx = _
 rw [List.map_append, List.zipIdx_append]; simp
theorem pmap_fst (n : Nat) (ks : List Nat) : (pmap n ks).map Prod.fst = ks.map (un n) := zipIdx_fst _ 0
def rnR (d : DFA) (o : Nat) : List Int := (renRow d o).map fun x : Nat => (x : Int)
theorem renum_rows (d : DFA) : (renum d).next = (order d).map (rnR d) := renum_next d
theorem renum_fins (d : DFA) : (renum d).final = (order d).map (finN d) := rfl
theorem bfs_at {d : DFA} {i o : Nat} (h : (bfsN d i)[i]? = some o) (hi : i ≤ d.next.length) : (order d)[i]? = some o := by
 obtain ⟨hl, e⟩ := List.getElem?_eq_some_iff.1 h
 obtain ⟨r, hr⟩ := bfsN_prefix d i d.next.length hi
 show (bfsN d d.next.length)[i]? = _
 rw [← hr, List.getElem?_append_left hl]; exact h
theorem take_at {α : Type} {l : List α} {i : Nat} {o : α} (h : l[i]? = some o) : l.take (i + 1) = l.take i ++ [o] := by
 obtain ⟨hl, e⟩ := List.getElem?_eq_some_iff.1 h
 rw [List.take_succ_eq_append_getElem hl, e]
theorem pr_fin_at {f : Bool → Bool → Bool} {a b : DFA} {o : Nat} (ho : o < a.next.length * b.next.length) : finN (prodD f a b) o = f (finN a (o / b.next.length)) (finN b (o % b.next.length)) := by
 obtain ⟨h1, h2⟩ := pr_split ho
 have := prod_fin (f := f) h1 h2
 rwa [Nat.div_add_mod'] at this
theorem pr_stop {f : Bool → Bool → Bool} {a b : DFA} {N : Nat} (va : Valid a) (vb : Valid b) (hv : a.vars = b.vars) (h : (bfsN (prodD f a b) N).length = N) : order (prodD f a b) = bfsN (prodD f a b) N :=
 order_eq h (by have := pr_bfs_len (f := f) va vb hv N; rw [prod_len]; omega)
theorem itms_snoc (E : TypeId) (qs : List Rec) (r : Rec) : itms E (qs ++ [r]) = itms E qs ++ [r.itm E] := List.map_append
theorem Sub.fold (A : List Item) (x : Item) (B S S' : List Item) (h : S' = S ++ [x]) : Sub ((A ++ S') ++ B) ((A ++ (x :: B)) ++ S) := by
 subst h
 refine ⟨_, ?_, List.Sublist.refl _⟩
 have h1 : (A ++ (S ++ [x])) ++ B = A ++ (S ++ (x :: B)) := by simp
 have h2 : (A ++ (x :: B)) ++ S = A ++ ((x :: B) ++ S) := by simp
 rw [h1, h2]
 exact List.Perm.append_left A List.perm_append_comm
end Go.Lx


namespace Go.Lx
open Go.RowKit
theorem wrongD_self {d : DFA} : wrongD d d = checkD d := by
 unfold wrongD
 by_cases h : checkD d = 0 <;> simp [h]
def InclA (a b : DFA) (r : Option (List Nat)) : Prop := if wrongD a b = 0 then LeastA (opD minusB a b) r else r = none
theorem InclA.ok {a b : DFA} (hw : wrongD a b = 0) {r : Option (List Nat)} : InclA a b r ↔ LeastA (opD minusB a b) r := by unfold InclA; rw [if_pos hw]
def AllOk : DFA → List DFA → Prop
 | _, [] => True
 | d, x :: l => wrongD d x = 0 → d.next.length * x.next.length ≤ 64 ∧ AllOk (opD andB d x) l
theorem AllOk.at {d : DFA} {l : List DFA} {i : Nat} (h : i < l.length) (ha : AllOk d (l.drop i)) (hw : wrongD d l[i] = 0) : d.next.length * l[i].next.length ≤ 64 ∧ AllOk (opD andB d l[i]) (l.drop (i + 1)) := by
 rw [List.drop_eq_getElem_cons h] at ha
 exact ha hw
abbrev k00 : DK := ⟨none, 0, none, 0, []⟩
theorem T.nilD {P : Program} {r : Option Nat} {base : World} {n : Nat} {c : Code} {Q : Post} {ρ : Env} {O : List Item} (II Bo I : TypeId) (h : T P r base n c Q ρ (dI II Bo I noD k00 :: O)) : T P r base n c Q ρ O :=
 T.nilRow Bo 1 (T.nilRow II 1 (T.pack (φ := nums k00.qs = noD.next) (L := [rowI none 0 II 1 [], rowI none 0 Bo 1 []] ++ []) (M := O) rfl h))
theorem CallT.nilD {P : Program} {base : World} {f : FuncId} {args : List Value} {O : List Item} {R : Value → List Item → Prop} (II Bo I : TypeId) (h : CallT P base f args O R) : CallT P base f args O (fun v O' => ∃ O2, O' = dI II Bo I noD k00 :: O2 ∧ R v O2) :=
 (CallT.addNil II 1 (CallT.addNil Bo 1 h)).packR fun v O' hR => by
  obtain ⟨O2, rfl, O3, rfl, h3⟩ := hR
  exact ⟨nums k00.qs = noD.next, [rowI Option.none 0 II 1 [], rowI Option.none 0 Bo 1 []] ++ [], O3, rfl, rfl, O3, rfl, h3⟩
theorem Sub.foldN (A : List Item) (x : Item) (S S' : List Item) (h : S' = S ++ [x]) : Sub (A ++ S') ((A ++ [x]) ++ S) := by
 have := Sub.fold A x [] S S' h
 rwa [List.append_nil] at this
theorem finN_at {d : DFA} (hv : Valid d) {s : Nat} (hs : s < d.next.length) : (bools d.final)[s]? = some (.bool (finN d s)) := by
 have hl : s < d.final.length := by rw [hv.fin]; exact hs
 rw [bools_get hl]; unfold finN; rw [List.getD_eq_getElem?_getD, List.getElem?_eq_getElem hl]; rfl
end Go.Lx


namespace Go.Lx
open Go.RowKit
theorem HasL.accV {v : Int} {n : Nat} {d : DFA} {p : List Nat → Bool} (h : HasL v n d p) {w : List Nat} (hw : WdV v w) (hl : w.length ≤ 64) : Lx.accV d w = p w := by
 rw [accV_zero (runE_zero.2 ⟨h.valid, hl, h.wd.2 hw⟩), h.acc w hw]
theorem min_bounds {v : Int} {n : Nat} {d : DFA} {p : List Nat → Bool} (h : HasL v n d p) : d.next.length < 9223372036854775807 ∧ (∀ r ∈ d.next, r.length < 9223372036854775807) ∧ d.final.length < 9223372036854775807 :=
 ⟨by have := h.valid.n4; omega, h.valid.bound, by have := h.valid.fin; have := h.valid.n4; omega⟩
end Go.Lx


namespace Go.Lx
open Go.RowKit
def longB (l : List DFA) : Bool := l.any fun d => longD d || decide (8 < d.next.length)
structure Sh (d : DFA) : Prop where
 n8 : d.next.length ≤ 8
 f40 : d.final.length ≤ 40
 r100 : ∀ r ∈ d.next, r.length ≤ 100
theorem sh_of {d : DFA} (h : ¬ (longD d || decide (8 < d.next.length)) = true) : Sh d := by
 simp only [Bool.or_eq_true, not_or, decide_eq_true_eq] at h
 obtain ⟨h1, h2, h3⟩ := longD_false h.1
 exact ⟨by omega, h2, h3⟩
theorem Sh.b1 {d : DFA} (h : Sh d) : d.next.length < 9223372036854775807 := by have := h.n8; omega
theorem Sh.b2 {d : DFA} (h : Sh d) : ∀ r ∈ d.next, r.length < 9223372036854775807 := fun r hr => by have := h.r100 r hr; omega
theorem Sh.b3 {d : DFA} (h : Sh d) : d.final.length < 9223372036854775807 := by have := h.f40; omega
theorem Sh.mul {a b : DFA} (ha : Sh a) (hb : Sh b) : a.next.length * b.next.length ≤ 64 := Nat.mul_le_mul ha.n8 hb.n8
theorem Sh.has {d : DFA} (h : Sh d) (hv : Valid d) : HasL d.vars 8 d (acc d) := HasL.of hv h.n8
theorem HasL.le {v : Int} {n m : Nat} {a : DFA} {p : List Nat → Bool} (ha : HasL v n a p) (h : a.next.length ≤ m) : HasL v m a p := ⟨ha.valid, h, ha.vars, ha.acc⟩
end Go.Lx


namespace Go.Lx
open Go.RowKit
theorem HasL.v6 {v : Int} {n : Nat} {d : DFA} {p : List Nat → Bool} (h : HasL v n d p) : 2 ^ v.toNat ≤ 64 := by
 have := h.valid.width; rw [h.vars] at this; exact this
theorem WdV.lt {v : Int} {w : List Nat} (h : WdV v w) (h6 : 2 ^ v.toNat ≤ 64) : ∀ x ∈ w, x < 64 := fun x hx => by have := h x hx; omega
theorem LeastA.lt {m : DFA} (hm : Valid m) (hn : m.next.length + 1 ≤ 4096) {u : List Nat} (h : LeastA m (some u)) : u.length ≤ m.next.length := by
 have hs := stay_valid hm.v0 hm.v6 false
 have hd : ∀ w, Wd m w → (dst (both m (stayD m.vars false)) m.start.toNat m.next.length w ↔ acc m w = true) := fun w hw => by
  have h1 := both_dst (a := m) (b := stayD m.vars false) hm hs rfl hw
  rw [show m.next.length + (stayD m.vars false).start.toNat = m.next.length from rfl] at h1
  rw [h1, stay_acc hm.v0 hm.v6 false (show Wd (stayD m.vars false) w from hw)]
  cases acc m w <;> simp
 obtain ⟨h1, h2, h3⟩ := h
 have hT : Tell (both m (stayD m.vars false)) m.start.toNat m.next.length (some u) := ⟨h1, (hd u h1).2 h2, fun x hx hxd => h3 x hx ((hd x hx).1 hxd)⟩
 have hlen := both_len m (stayD m.vars false)
 have h1' : (stayD m.vars false).next.length = 1 := rfl
 have := Tell.lt (both_valid hm hs rfl hn) (by rw [hlen]; have := start_lt hm.toVal; omega) (by rw [hlen]; omega) hT
 omega
end Go.Lx


namespace Go.Lx
open Go.RowKit
end Go.Lx


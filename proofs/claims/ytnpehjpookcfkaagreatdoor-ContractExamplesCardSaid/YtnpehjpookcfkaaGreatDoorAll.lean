/- Contracts of functions of the program (CoreL, CoreM, CoreN, CoreP, CoreQ, CoreR, CoreS, CoreU, CoreV, DK, CoreW, CoreX, Facts, Kit, CoreY, Plain, Part, Bfs, Tell, Law, Law2, Mat, Ord, Gre, All): what each call answers and that it leaves memory as it was. Conditions: those each theorem names. -/
import Derived.Test.YtnpehjpookcfkaaGreatDoorCoreK
import Derived.Test.YtnpehjpookcfkaaGreatDoorRows
set_option linter.unusedSectionVars false
set_option linter.unusedSimpArgs false
set_option linter.unusedVariables false
set_option linter.unnecessarySimpa false
set_option maxHeartbeats 8000000
set_option maxRecDepth 20000
namespace Go.Lx
open Go.RowKit
section
variable {P : Program} {base : World} {ρ : Env} {O : List Item} {dst : Option Nat} {t : TypeId} {p : String} {af : Array Edge} {g : Option (Nat × Bool)}
theorem wrapU64 {x : Nat} (h : x < 2 ^ 64) : IntKind.u64.wrap (x : Int) = (x : Int) := by
 simp only [IntKind.wrap, IntKind.signed, IntKind.bits]
 simp
 omega
inductive UK : IntKind → Prop
 | u8 : UK .u8
 | u64 : UK .u64
theorem UK.wrap {k : IntKind} (hk : UK k) {x : Nat} (h : x < 2 ^ k.bits) : k.wrap (x : Int) = (x : Int) := by
 cases hk
 ·exact wrap8 (by simpa [IntKind.bits] using h)
 ·exact wrapU64 (by simpa [IntKind.bits] using h)
theorem q_remN {x y : Operand} {T U : TypeId} {k : IntKind} {a b : Nat} (hx : ev ρ x = .int k (a : Int)) (hy : ev ρ y = .int k (b : Int)) (h0 : 0 < b) : QT P base ⟨dst, .binOp .rem T x y U, t, p, af, g⟩ ρ O (.int k ((a % b : Nat) : Int)) := by
 have h := q_rem (P := P) (base := base) (O := O) (dst := dst) (t := t) (p := p) (af := af) (g := g) (T := T) (U := U) hx hy (by omega)
 rw [Int.tmod_eq_emod_of_nonneg (by omega), ← Int.natCast_emod] at h
 exact h
theorem q_addN {x y : Operand} {T U : TypeId} {a b : Nat} (hx : ev ρ x = .int .i64 (a : Int)) (hy : ev ρ y = .int .i64 (b : Int)) (h : a + b ≤ 9223372036854775807) : QT P base ⟨dst, .binOp .add T x y U, t, p, af, g⟩ ρ O (.int .i64 ((a + b : Nat) : Int)) := by
 have := q_add64 (P := P) (base := base) (O := O) (dst := dst) (t := t) (p := p) (af := af) (g := g) (T := T) (U := U) hx hy (by omega)
 rwa [← Int.natCast_add] at this
theorem q_subN {x y : Operand} {T U : TypeId} {a b : Nat} (hx : ev ρ x = .int .i64 (a : Int)) (hy : ev ρ y = .int .i64 (b : Int)) (h : b ≤ a) (ha : a ≤ 9223372036854775807) : QT P base ⟨dst, .binOp .sub T x y U, t, p, af, g⟩ ρ O (.int .i64 ((a - b : Nat) : Int)) := by
 have := q_sub64 (P := P) (base := base) (O := O) (dst := dst) (t := t) (p := p) (af := af) (g := g) (T := T) (U := U) hx hy (by omega)
 rwa [← Int.natCast_sub h] at this
theorem q_mulN {x y : Operand} {T U : TypeId} {a b : Nat} (hx : ev ρ x = .int .i64 (a : Int)) (hy : ev ρ y = .int .i64 (b : Int)) (h : a * b ≤ 9223372036854775807) : QT P base ⟨dst, .binOp .mul T x y U, t, p, af, g⟩ ρ O (.int .i64 ((a * b : Nat) : Int)) := by
 have := q_mul64 (P := P) (base := base) (O := O) (dst := dst) (t := t) (p := p) (af := af) (g := g) (T := T) (U := U) hx hy (by rw [← Int.natCast_mul]; omega)
 rwa [← Int.natCast_mul] at this
theorem q_minN {x y : Operand} {ats : Array TypeId} {k k' : IntKind} {a b : Nat} (hx : ev ρ x = .int k (a : Int)) (hy : ev ρ y = .int k' (b : Int)) : QT P base ⟨dst, .call ⟨.builtin .min, #[x, y], ats⟩, t, p, af, g⟩ ρ O (.int k ((min a b : Nat) : Int)) := by
 have h := q_min (P := P) (base := base) (O := O) (dst := dst) (t := t) (p := p) (af := af) (g := g) (ats := ats) hx hy
 have e : (if (b : Int) < (a : Int) then (b : Int) else (a : Int)) = ((min a b : Nat) : Int) := by split <;> omega
 rwa [e] at h
def subB (b : Option Addr) (c lo k : Nat) : Option Addr := if c = lo then b else b.map (·.add (lo * k))
theorem subB_zero (b : Option Addr) (c k : Nat) : subB b c 0 k = b := by
 unfold subB
 split
 ·rfl
 ·rw [Nat.zero_mul]; cases b with
  | none => rfl
  | some a => simp [Addr.add]
theorem Sl.sub {w : World} {b : Option Addr} {cs : List Value} (h : Sl w b cs) (c lo k m : Nat) (hc : c = lo → (cs.drop (lo * k)).take m = []) : Sl w (subB b c lo k) ((cs.drop (lo * k)).take m) := fun i hi => by
 have hlt : lo * k + i < cs.length := by rw [List.length_take, List.length_drop] at hi; omega
 obtain ⟨⟨bk, o, sp⟩, h1, h2, h3⟩ := h _ hlt
 simp only at h2; subst h2
 have hne : c ≠ lo := fun e => by rw [hc e] at hi; simp at hi
 refine ⟨⟨bk, o + lo * k, none⟩, ?_, rfl, ?_⟩
 ·unfold subB; rw [if_neg hne, h1]; simp [add_off]
 ·simp only [List.getElem_take, List.getElem_drop]
  rw [show o + lo * k + i = o + (lo * k + i) by omega]; exact h3
theorem q_slice {x : Operand} {T E : TypeId} {b : Option Addr} {n c k by_ lo hi : Nat} {z : Value} {yl yh : Option Operand} {kl kh : IntKind} (hu : P.underlying T = some (.slice E)) (hi' : Inf P E z k by_) (hx : ev ρ x = .slice b n c)
  (hl : ∀ y, yl = some y → ev ρ y = .int kl (lo : Int)) (hl0 : yl = none → lo = 0) (hh : ∀ y, yh = some y → ev ρ y = .int kh (hi : Int)) (hh0 : yh = none → hi = n) (h1 : lo ≤ hi) (h2 : hi ≤ c) :
  QT P base ⟨dst, .slice T x yl yh none, t, p, af, g⟩ ρ O (.slice (subB b c lo k) (hi - lo) (c - lo)) := fun w _ => by
 have e1 : (lo : Int) ≤ (hi : Int) := by omega
 have e2 : (hi : Int) ≤ (c : Int) := by omega
 have e0 : (0 : Int) ≤ (lo : Int) := by omega
 have e3 : (0 : Int) ≤ (hi : Int) := by omega
 unfold subB
 have ed : c - lo = 0 ↔ c = lo := by omega
 cases yl with
 | none =>
  obtain rfl := hl0 rfl
  cases yh with
  | none =>
   obtain rfl := hh0 rfl
   by_cases hc0 : c = 0
   ·simp [execOp, Instr.sliceAt, Instr.slice, hx, run_underlying' hu, run_sizeOf' hi', Instr.sliceBounds, hc0]
   ·simp [execOp, Instr.sliceAt, Instr.slice, hx, run_underlying' hu, run_sizeOf' hi', Instr.sliceBounds, hc0]
  | some y =>
   have := hh y rfl
   by_cases hc0 : c = 0
   ·simp [execOp, Instr.sliceAt, Instr.slice, hx, this, run_underlying' hu, run_sizeOf' hi', Instr.sliceBounds, Instr.sliceBound, asIntOf, e2, e3, hc0, h2]
    omega
   ·simp [execOp, Instr.sliceAt, Instr.slice, hx, this, run_underlying' hu, run_sizeOf' hi', Instr.sliceBounds, Instr.sliceBound, asIntOf, e2, e3, hc0, h2]
 | some y' =>
  have hl' := hl y' rfl
  cases yh with
  | none =>
   obtain rfl := hh0 rfl
   by_cases hc0 : c = lo
   ·simp [execOp, Instr.sliceAt, Instr.slice, hx, hl', run_underlying' hu, run_sizeOf' hi', Instr.sliceBounds, Instr.sliceBound, asIntOf, e1, e0, hc0, h1]
   ·simp [execOp, Instr.sliceAt, Instr.slice, hx, hl', run_underlying' hu, run_sizeOf' hi', Instr.sliceBounds, Instr.sliceBound, asIntOf, e1, e0, hc0, h1]
  | some y =>
   have := hh y rfl
   by_cases hc0 : c = lo
   ·simp [execOp, Instr.sliceAt, Instr.slice, hx, hl', this, run_underlying' hu, run_sizeOf' hi', Instr.sliceBounds, Instr.sliceBound, asIntOf, e1, e0, e2, e3, hc0, h1, h2]
    intro; omega
   ·simp [execOp, Instr.sliceAt, Instr.slice, hx, hl', this, run_underlying' hu, run_sizeOf' hi', Instr.sliceBounds, Instr.sliceBound, asIntOf, e1, e0, e2, e3, hc0, h1, h2]
theorem q_sliceTo {x y : Operand} {T E : TypeId} {b : Option Addr} {n c k by_ hi : Nat} {z : Value} {kh : IntKind} (hu : P.underlying T = some (.slice E)) (hi' : Inf P E z k by_) (hx : ev ρ x = .slice b n c) (hh : ev ρ y = .int kh (hi : Int)) (h2 : hi ≤ c) :
  QT P base ⟨dst, .slice T x none (some y) none, t, p, af, g⟩ ρ O (.slice b hi c) := by
 have := q_slice (P := P) (base := base) (O := O) (dst := dst) (t := t) (p := p) (af := af) (g := g) (lo := 0) (kl := .i64) hu hi' hx (yl := none) (yh := some y) (fun _ h => by cases h) (fun _ => rfl) (fun _ h => by cases h; exact hh) (fun h => by cases h) (Nat.zero_le _) h2
 rwa [subB_zero, Nat.sub_zero, Nat.sub_zero] at this
end
section
variable {P : Program} {r : Option Nat} {base : World} {n : Nat} {ρ : Env} {O : List Item} {K : Env → List Item → Prop} {d : Nat} {t : TypeId} {p : String} {af : Array Edge} {g : Option (Nat × Bool)}
theorem rowP.head {b : Option Addr} {c k : Nat} {T : TypeId} {cs : List Value} {w : World} (h : rowP b c T k cs w) (m : Nat) : rowP b c T k (cs.take m) w := by
 cases b with
 | none => obtain ⟨rfl, rfl⟩ := h; exact ⟨by simp, rfl⟩
 | some a =>
  obtain ⟨h1, full, h2, h3, h4, h5⟩ := h
  refine ⟨h1, full, h2, by rw [List.length_take]; omega, h4, fun i hi => ?_⟩
  have hi' : i < cs.length := by rw [List.length_take] at hi; omega
  rw [List.getElem_take]; exact h5 i hi'
theorem Inv.head {w : World} {i : Nat} {b : Option Addr} {c k : Nat} {T : TypeId} {cs : List Value} (hI : Inv base O w) (hO : O[i]? = some (rowI b c T k cs)) (m : Nat) : Inv base (O.set i (rowI b c T k (cs.take m))) w :=
 hI.weaken hO (by simp [rowI]) (fun h => h.head m)
end
theorem T.loopS {P : Program} {r : Option Nat} {base : World} {n : Nat} {Q : Post} {ρ : Env} {O : List Item} {c : Code} {α : Type} (I : α → Env → List Item → Prop) (μ : α → Nat) (s : α) (h0 : I s ρ O)
  (h : ∀ s ρ O, I s ρ O → T P r base n c (thn (fun ρ' O' => ∃ s', μ s' < μ s ∧ ∃ O2, Sub O2 O' ∧ I s' ρ' O2) Q) ρ O) : T P r base n (.loop c) Q ρ O :=
 T.loop (fun s ρ O => ∃ O2, Sub O2 O ∧ I s ρ O2) μ s ⟨O, Sub.of (List.Sublist.refl _), h0⟩ (fun s ρ O ⟨O2, hs, hi⟩ => T.sub hs (h s ρ O2 hi))
theorem run_loadBox1 {P : Program} {T E : TypeId} {d : TypeDesc} {b : Nat} {v : Value} {cs : List Value} {fr : Nat × Nat} {w : World} (hu : P.underlying T = some d) (ha : aggB d = false) (hw : w.heap[b]? = some (.cells (v :: cs).toArray E fr)) :
  (loadVar T ⟨b, 0, none⟩).run P w = .ok v w := by
 have hc : w.cell? ⟨b, 0, none⟩ = some v := by unfold World.cell?; simp [hw]
 simp [loadVar, run_isAgg' hu, ha, hc]
structure EdgeT (P : Program) (kt : TypeId) (f1 f2 f3 f4 : Field) : Prop where
 under : P.underlying kt = some (.struct #[f1, f2, f3, f4])
 u1 : P.underlying f1.type = some (.int .i64)
 u2 : P.underlying f2.type = some (.int .i64)
 u3 : P.underlying f3.type = some (.int .u8)
 u4 : P.underlying f4.type = some (.int .u8)
 o1 : f1.offset = 0
 o2 : f2.offset = 1
 o3 : f3.offset = 2
 o4 : f4.offset = 3
 n1 : f1.name ≠ "_"
 n2 : f2.name ≠ "_"
 n3 : f3.name ≠ "_"
 n4 : f4.name ≠ "_"
 held : P.stoodInHeld kt = false
 guard : P.eqGuardType P.depth kt = false
theorem run_equal_intK {P : Program} {T : TypeId} {k k' : IntKind} (h : P.underlying T = some (.int k)) (d : Nat) (a b : Int) (w : World) : (Op.equalIn (d + 1) T (.int k' a) (.int k' b)).run P w = .ok (a == b) w := by
 rw [Op.equalIn]
 simp [run_underlying' h]
theorem EdgeT.equal {P : Program} {kt : TypeId} {f1 f2 f3 f4 : Field} (h : EdgeT P kt f1 f2 f3 f4) (a b c e a' b' c' e' : Int) (w : World) :
  (Op.equal kt (.agg #[.int .i64 a, .int .i64 b, .int .u8 c, .int .u8 e]) (.agg #[.int .i64 a', .int .i64 b', .int .u8 c', .int .u8 e'])).run P w = .ok (decide (a = a' ∧ b = b' ∧ c = c' ∧ e = e')) w := by
 show (Op.equalIn (9998 + 1 + 1) kt _ _).run P w = _
 rw [Op.equalIn]
 have p1 : ∀ (a b c e : Int), (part f1.type #[.int .i64 a, .int .i64 b, .int .u8 c, .int .u8 e] f1.offset).run P w = .ok (.int .i64 a) w := fun a b c e => by simp [part, run_isAgg' h.u1, aggB, h.o1]
 have p2 : ∀ (a b c e : Int), (part f2.type #[.int .i64 a, .int .i64 b, .int .u8 c, .int .u8 e] f2.offset).run P w = .ok (.int .i64 b) w := fun a b c e => by simp [part, run_isAgg' h.u2, aggB, h.o2]
 have p3 : ∀ (a b c e : Int), (part f3.type #[.int .i64 a, .int .i64 b, .int .u8 c, .int .u8 e] f3.offset).run P w = .ok (.int .u8 c) w := fun a b c e => by simp [part, run_isAgg' h.u3, aggB, h.o3]
 have p4 : ∀ (a b c e : Int), (part f4.type #[.int .i64 a, .int .i64 b, .int .u8 c, .int .u8 e] f4.offset).run P w = .ok (.int .u8 e) w := fun a b c e => by simp [part, run_isAgg' h.u4, aggB, h.o4]
 simp [run_underlying' h.under, h.held, h.n1, h.n2, h.n3, h.n4, p1, p2, p3, p4, run_equal_intK h.u1, run_equal_intK h.u2, run_equal_intK h.u3, run_equal_intK h.u4]
 by_cases e1 : a = a'
 ·by_cases e2 : b = b'
  ·by_cases e3 : c = c'
   ·by_cases e4 : e = e'
    ·simp [e1, e2, e3, e4]
    ·simp [e1, e2, e3, e4]
   ·simp [e1, e2, e3]
  ·simp [e1, e2]
 ·simp [e1]
section
variable {P : Program} {base : World} {ρ : Env} {O : List Item} {dst : Option Nat} {t : TypeId} {p : String} {af : Array Edge} {g : Option (Nat × Bool)}
theorem EdgeT.pre {kt : TypeId} {f1 f2 f3 f4 : Field} (h : EdgeT P kt f1 f2 f3 f4) (op : BinOp) (x y : Operand) (a b : Array Value) (w : World) : (eqGuard op kt x y (.agg a) (.agg b)).run P w = .ok () w := by
 unfold eqGuard
 cases op <;> simp [h.guard]
end
end Go.Lx


namespace Go.Lx
open Go.RowKit
section
variable {P : Program} {r : Option Nat} {base : World} {n : Nat} {ρ : Env} {O : List Item} {K : Env → List Item → Prop} {d : Nat} {t : TypeId} {p : String} {af : Array Edge} {g : Option (Nat × Bool)}
end
theorem NextT.reorder {P : Program} {base : World} {M : List Item} {R : Value → List Item → Prop} {x : Result Next} (h : NextT P base M (fun v O' => ∃ O2, Sub O2 O' ∧ R v O2) x) : NextT P base M R x := by
 cases x with
 | halt e w => exact h
 | ok y w =>
  cases y with
  | enter f args => exact Calls.mono h (fun e w' ⟨v, O', h1, h2, O2, hs, hr⟩ => ⟨v, O2, h1, h2.subp hs.app, hr⟩)
  | round l f tmps assign body => exact RoundIn.mono h (fun e w' ⟨v, O', h1, h2, O2, hs, hr⟩ => ⟨v, O2, h1, h2.subp hs.app, hr⟩)
  | _ => exact h
theorem CallV.reorder {P : Program} {base : World} {fv : Value} {args : List Value} {O : List Item} {R : Value → List Item → Prop} (h : CallV P base fv args O (fun v O' => ∃ O2, Sub O2 O' ∧ R v O2)) : CallV P base fv args O R := fun w M hI => (h w M hI).reorder
theorem sub_swap {A B : List Item} : Sub (A ++ B) (B ++ A) := ⟨_, List.perm_append_comm, List.Sublist.refl _⟩
theorem CallV.atR {P : Program} {base : World} {fv : Value} {args : List Value} {A : List Item} (B : List Item) {R : Value → List Item → Prop} (h : CallV P base fv args A R) : CallV P base fv args (B ++ A) (fun v O' => ∃ A', O' = B ++ A' ∧ R v A') :=
 ((h.under (B := B) sub_swap).mono (fun v O' ⟨A', e, hr⟩ => ⟨B ++ A', by rw [e]; exact sub_swap, A', rfl, hr⟩)).reorder
theorem Inv.right {base : World} {A B : List Item} {w : World} (h : Inv base (A ++ B) w) : Inv base B w := h.sub (List.sublist_append_right _ _)
def WordsR (w : World) (vs : List Value) (ws : List (List Nat)) : Prop :=
 vs.length = ws.length ∧ ∀ (i : Nat) (r : List Nat), ws[i]? = some r → ∃ b c, vs[i]? = some (Value.slice b r.length c) ∧ Sl w b (byts r)
theorem WordsR.get {w : World} {vs : List Value} {ws : List (List Nat)} (h : WordsR w vs ws) {i : Nat} (hi : i < ws.length) : ∃ b c, vs[i]? = some (Value.slice b ws[i].length c) ∧ Sl w b (byts ws[i]) :=
 h.2 i _ (List.getElem?_eq_getElem hi)
theorem WordsR.keep {w w' : World} {vs : List Value} {ws : List (List Nat)} (h : WordsR w vs ws) (hb : ∀ k, k < w.heap.size → w'.heap[k]? = w.heap[k]?) : WordsR w' vs ws :=
 ⟨h.1, fun i r hr => by obtain ⟨b, c, h1, h2⟩ := h.2 i r hr; exact ⟨b, c, h1, h2.keep hb⟩⟩
theorem WordsR.two {w : World} {b1 b2 : Option Addr} {c1 c2 n1 n2 : Nat} {r1 r2 : List Nat} (h1 : Sl w b1 (byts r1)) (h2 : Sl w b2 (byts r2)) (e1 : r1.length = n1) (e2 : r2.length = n2) : WordsR w [.slice b1 n1 c1, .slice b2 n2 c2] [r1, r2] := by
 refine ⟨rfl, fun i r hr => ?_⟩
 match i with
 | 0 => simp at hr; subst hr; exact ⟨b1, c1, by rw [e1]; rfl, h1⟩
 | 1 => simp at hr; subst hr; exact ⟨b2, c2, by rw [e2]; rfl, h2⟩
 | i + 2 => simp at hr
end Go.Lx


namespace Go.Lx
open Go.RowKit
theorem CallV.pick {P : Program} {base : World} {fv : Value} {args : List Value} {x : Value} (is : List Nat) (L R A : List Item) (hA : pickL is L = A) (h : CallV P base fv args A (fun v O' => v = x ∧ O' = A)) : CallV P base fv args (L ++ R) (fun v O' => v = x ∧ O' = L ++ R) := by
 subst hA
 have hp : (pickL is L ++ (restL is L ++ R)).Perm (L ++ R) := by
  rw [← List.append_assoc]; exact (pick_perm is L).append_right R
 exact ((h.under (B := restL is L ++ R) (Sub.of_perm (D := []) (by simpa using hp))).mono (fun v O' ⟨A', e, hv, ha⟩ => ⟨L ++ R, by rw [e, ha]; exact Sub.of_perm (D := []) (by simpa using hp.symm), hv, rfl⟩)).reorder
theorem Src.own {P : Program} {base : World} {O : List Item} {b : Option Addr} {c k m : Nat} {cs : List Value} (h : ∀ w, Inv base O w → Sl w b cs) (hl : cs.length = m * k) : Src P base O k m (.slice b m c) cs :=
 ⟨hl, fun w => by simp [Builtin.lenOf], fun w hI => firstCells_run (h w hI) hl (fun e => by
  cases cs with
  | nil => rfl
  | cons v cs => obtain ⟨a, h1, _⟩ := h w hI 0 (by simp); rw [e] at h1; cases h1)⟩
section
variable {P : Program} {r : Option Nat} {base : World} {n : Nat} {ops : Array Oper} {S S2 : List Item} {tail tail2 : List Nat} {K : Env → List Item → Prop} {ρ : Env} {O : List Item}
theorem RO.loudG {fuel : Nat} {listed : Array Bool} (i : Nat) {o : Oper} {j0 tj : Nat} {want : Bool} (hi : ops[i]? = some o) (hg : o.guard = some (j0, want)) (hj0 : (ops[j0]?).bind (·.dst) = some tj) (hw : ρ tj = .bool want) (hr : Region.ready .any ops listed = [i])
  (h : LT P r base n o ρ O (fun ρ' O' => (i ∈ tail ∨ Sub S O') ∧ (i ∈ tail2 ∨ Sub S2 O') ∧ RO P r base n ops S tail S2 tail2 fuel (listed.setIfInBounds i true) K ρ' O')) : RO P r base n ops S tail S2 tail2 (fuel + 1) listed K ρ O := by
 intro Q a w M D hq hp ha hI hcl hS
 refine ⟨fun h0 => (by rw [hr] at h0; cases h0), fun j hj => ?_⟩
 rw [hr] at hj
 obtain rfl : j = i := by simpa using hj
 have hj' : j ∈ Region.ready .any ops listed := by rw [hr]; simp
 have hlt : j < listed.size := by
  have := (mem_ready.1 hj').1
  rcases Nat.lt_or_ge j listed.size with h' | h'
  ·exact h'
  ·simp [Array.getElem?_eq_none h'] at this
 have hy := yielded_eq (ops := ops) ha hj0
 rw [hw] at hy
 have hwant : Region.wanted o (yielded ops a.tmps) = true := by unfold Region.wanted; rw [hg]; simp [hy, yOf]
 unfold wpOpIn
 simp only [hi]
 rw [if_pos hwant]
 refine h a w _ _ ha hI _ _ fun a' ρ' O' w' h1 h2 h3 => ?_
 have hcase : ∀ (tl : List Nat) (Z : List Item), (j ∈ tl ∨ Sub Z O') → (tl.any fun b => (listed.setIfInBounds j true).getD b false) = true ∨ Inv base Z w' := fun tl Z h3 => by
  rcases h3 with h4 | h4
  ·refine .inl (List.any_eq_true.2 ⟨j, h4, ?_⟩)
   simp [hlt]
  ·exact .inr (h2.left.subp h4)
 have hcl' : classT base S tail S2 tail2 (listed.setIfInBounds j true) w' := ⟨h2.emp, hcase _ _ h3.1, hcase _ _ h3.2.1⟩
 exact ⟨hcl', h3.2.2 Q a' w' M D hq hp h1 h2 (closed_step hcl hj') hcl'⟩
theorem DO.loudG {l : List (Nat × Nat)} {i : Nat} {o : Oper} {j0 tj : Nat} {want : Bool} (hi : ops[i]? = some o) (hg : o.guard = some (j0, want)) (hj0 : (ops[j0]?).bind (·.dst) = some tj) (hw : ρ tj = .bool want)
  (h : LT P r base n o ρ O (fun ρ' O' => Sub S O' ∧ DO P r base n ops S tail [] tail2 l K ρ' O')) : DO P r base n ops S tail [] tail2 ((i, 1) :: l) K ρ O := fun hs hnd hl listed hb => by
 simp only [walkB, Bool.and_eq_true, beq_iff_eq] at hb
 refine RO.loudG i hi hg hj0 hw hb.1 ?_
 intro a w M ds ha hI next Qx hnext
 exact h a w M ds ha hI next Qx fun a' ρ' O' w' h1 h2 h3 => hnext a' ρ' O' w' h1 h2 ⟨.inr h3.1, .inr (Sub.of (List.nil_sublist _)), h3.2 hs hnd (fun q hq => hl q (List.mem_cons_of_mem _ hq)) _ hb.2⟩
theorem DO.lastG {l : List (Nat × Nat)} {i : Nat} {o : Oper} {j0 tj : Nat} {want : Bool} (hi : ops[i]? = some o) (hg : o.guard = some (j0, want)) (hj0 : (ops[j0]?).bind (·.dst) = some tj) (hw : ρ tj = .bool want)
  (h : LT P r base n o ρ O (fun ρ' O' => DO P r base n ops S tail S2 tail2 l K ρ' O')) : DO P r base n ops S tail S2 tail2 ((i, 2) :: l) K ρ O := fun hs hnd hl listed hb => by
 simp only [walkB, Bool.and_eq_true, beq_iff_eq] at hb
 refine RO.loudG i hi hg hj0 hw hb.1 ?_
 intro a w M ds ha hI next Qx hnext
 exact h a w M ds ha hI next Qx fun a' ρ' O' w' h1 h2 h3 => hnext a' ρ' O' w' h1 h2 ⟨.inl ((hl (i, 2) (by simp)).1.1 rfl), .inl ((hl (i, 2) (by simp)).2.1 (.inl rfl)), h3 hs hnd (fun q hq => hl q (List.mem_cons_of_mem _ hq)) _ hb.2⟩
end
end Go.Lx


namespace Go.Lx
open Go.RowKit
section
variable {P : Program} {r : Option Nat} {base : World} {n : Nat} {ops : Array Oper} {S S2 : List Item} {tail tail2 : List Nat} {K : Env → List Item → Prop} {ρ : Env} {O : List Item}
end
theorem Sub.k {A B : List Item} {a : Item} (h : Sub A B) : Sub (a :: A) (a :: B) := by
 obtain ⟨l, h1, h2⟩ := h; exact ⟨a :: l, h1.cons a, .cons_cons a h2⟩
theorem Sub.d {A B : List Item} {a : Item} (h : Sub A B) : Sub A (a :: B) := by
 obtain ⟨l, h1, h2⟩ := h; exact ⟨l, h1, .cons a h2⟩
theorem Sub.z {B : List Item} : Sub [] B := Sub.of (List.nil_sublist _)
theorem Sub.rf {B : List Item} : Sub B B := Sub.of (List.Sublist.refl _)
theorem Sub.swap3 (A B S : List Item) : Sub ((A ++ B) ++ S) ((A ++ S) ++ B) := by
 refine ⟨(A ++ S) ++ B, ?_, List.Sublist.refl _⟩
 rw [List.append_assoc, List.append_assoc]
 exact List.Perm.append_left A List.perm_append_comm
theorem sub_perm {l B : List Item} (h : l.Sublist B) : ∃ D, (l ++ D).Perm B := by
 induction h with
 | slnil => exact ⟨[], List.Perm.refl _⟩
 | cons a _ ih => obtain ⟨D, hD⟩ := ih; exact ⟨a :: D, List.perm_middle.trans (hD.cons a)⟩
 | cons_cons a _ ih => obtain ⟨D, hD⟩ := ih; exact ⟨D, hD.cons a⟩
theorem Sub.perm {A B : List Item} (h : Sub A B) : ∃ D, (A ++ D).Perm B := by
 obtain ⟨l, p, s⟩ := h
 obtain ⟨D, hD⟩ := sub_perm s
 exact ⟨D, (p.append_right D).trans hD⟩
theorem Sub.tr {A B C : List Item} (h1 : Sub A B) (h2 : Sub B C) : Sub A C := by
 obtain ⟨D, p⟩ := h1.perm
 obtain ⟨E, q⟩ := h2.perm
 exact Sub.of_perm (D := D ++ E) (by rw [← List.append_assoc]; exact (p.append_right E).trans q)
end Go.Lx


namespace Go.Lx
open Go.RowKit
theorem Sub.pull {xs : List Item} {x : Item} (P Q : List Item) (h : Sub xs (P ++ Q)) : Sub (x :: xs) (P ++ x :: Q) := by
 obtain ⟨D, p⟩ := h.perm
 refine Sub.of_perm (D := D) ?_
 exact (p.cons x).trans List.perm_middle.symm
example (a b c d e : Item) (R : List Item) : Sub ([c, a, e] ++ R) ([a, b, c, d, e] ++ R) := by exact Sub.pull [a, b] _ (.k (.d (.d (.k .rf))))
end Go.Lx


namespace Go.Lx
open Go.RowKit
theorem Sub.appL {A B : List Item} (N : List Item) (h : Sub A B) : Sub A (N ++ B) := by
 obtain ⟨l, hp, hs⟩ := h
 exact ⟨l, hp, hs.trans (List.sublist_append_right _ _)⟩
end Go.Lx


namespace Go.Lx
open Go.RowKit
theorem Res.cell2a {P : Program} {base : World} {ρ : Env} {O : List Item} {fn : Func} {R : Value → List Item → Prop} {a i c j : Nat} {T U E E' : TypeId} {d d' : TypeDesc} {z u : Value} {s by_ b b' : Nat} {cs cs' : List Value} {fr fr' : Nat × Nat} (hr : fn.results = #[.cell a T, .cell c U]) (hu : P.underlying T = some d) (ha : aggB d = true) (hi : Inf P T z s by_) (hu' : P.underlying U = some d') (ha' : aggB d' = false)
  (hp : ρ a = .pointer (some ⟨b, 0, none⟩)) (hp' : ρ c = .pointer (some ⟨b', 0, none⟩)) (hO : O[i]? = some (objI b (.cells cs.toArray E fr))) (hO' : O[j]? = some (objI b' (.cells (u :: cs').toArray E' fr'))) (hl : cs.length = s)
  (h : R (.tuple #[.agg cs.toArray, u]) O) : Res P base fn ρ O R :=
 ⟨⟨_, O, Sub.of (List.Sublist.refl _), h, fun w tmps hI ht => by
  have h1 := run_loadBox (P := P) hu ha hi hl (hI.objAt hO)
  have h2 := run_loadBox1 (P := P) hu' ha' (hI.objAt hO')
  have ht1 := ht a
  have ht2 := ht c
  simp only [Array.getD_eq_getD_getElem?] at ht1 ht2
  simp [results, hr, ht1, ht2, hp, hp', asAddr, h1, h2]⟩⟩
theorem q_nilCheck {P : Program} {base : World} {ρ : Env} {O : List Item} {dst : Option Nat} {t : TypeId} {p : String} {af : Array Edge} {g : Option (Nat × Bool)} {x : Operand} {a : Addr} (h : ev ρ x = .pointer (some a)) : QT P base ⟨dst, .nilCheck x, t, p, af, g⟩ ρ O (.pointer (some a)) := fun w _ => by simp [execOp, h]
end Go.Lx


namespace Go.Lx
open Go.RowKit
section
variable {P : Program} {base : World} {ρ : Env} {O : List Item} {dst : Option Nat} {t : TypeId} {p : String} {af : Array Edge} {g : Option (Nat × Bool)}
theorem q_indexA {x y : Operand} {S E : TypeId} {d : TypeDesc} {n i s by_ : Nat} {kk : IntKind} {z : Value} {cs vs : List Value} (hu : P.underlying S = some (.array n E)) (he : P.underlying E = some d) (ha : aggB d = true) (hi : Inf P E z s by_)
  (hx : ev ρ x = .agg cs.toArray) (hy : ev ρ y = .int kk (i : Int)) (hlt : i < n) (hv : (cs.drop (i * s)).take s = vs) : QT P base ⟨dst, .index S x y, t, p, af, g⟩ ρ O (.agg vs.toArray) := fun w _ => by
 have e : cs.toArray.extract (i * s) (i * s + s) = vs.toArray := by
  rw [List.extract_toArray, List.extract_eq_take_drop, Nat.add_sub_cancel_left, hv]
 simp [execOp, hx, hy, Instr.index, asIntOf, run_underlying' hu, hlt, run_sizeOf' hi, part, run_isAgg' he, ha]
 simpa using e
theorem q_buildA {T E : TypeId} {n : Nat} {parts : List (Nat × Operand)} {z ze : Value} {s by_ sz bz : Nat} {cs : List Value} (hu : P.underlying T = some (.array n E)) (he : Inf P E ze s by_) (hi : Inf P T z sz bz) (hf : Instr.fill (fun i => some (i * s, s)) z.cells (parts.map fun q => (q.1, ev ρ q.2)) = some cs.toArray) :
  QT P base ⟨dst, .build T parts.toArray, t, p, af, g⟩ ρ O (.agg cs.toArray) := fun w _ => by
 simp only [execOp, Instr.build, Sem.run_bind, run_zeroValue' hi, Result.andThen_ok, run_underlying' hu, run_sizeOf' he]
 simp [hf]
theorem q_load_part (i : Nat) {x : Operand} {T E : TypeId} {d : TypeDesc} {b o : Nat} {cs vs : List Value} {fr : Nat × Nat} {z : Value} {s by_ : Nat} (hu : P.underlying T = some d) (ha : aggB d = true) (hi : Inf P T z s by_) (hx : ev ρ x = .pointer (some ⟨b, o, none⟩)) (hl : vs.length = s)
  (hO : O[i]? = some (objI b (.cells cs.toArray E fr))) (hv : (cs.drop o).take s = vs) : QT P base ⟨dst, .load T x, t, p, af, g⟩ ρ O (.agg vs.toArray) :=
 q_load_agg hu ha hi hx hl fun w hI j hj => by
  have := hI.objAt hO
  unfold World.cell?
  have e : cs[o + j]? = some vs[j] := by
   have h1 : vs[j]? = some vs[j] := List.getElem?_eq_getElem hj
   rw [← h1, ← hv, List.getElem?_take, if_pos (by omega), List.getElem?_drop]
  simp [this, e]
end
def Rnd (P : Program) (r : Option Nat) (base : World) (n : Nat) (c : Code) (Q : Post) : Nat → Env → List Item → Prop
 | 0, _, _ => False
 | m + 1, ρ, O => T P r base n c (thn (Rnd P r base n c Q m) Q) ρ O
theorem T.rounds {P : Program} {r : Option Nat} {base : World} {n : Nat} {c : Code} {Q : Post} {ρ : Env} {O : List Item} (m : Nat) (h : Rnd P r base n c Q m ρ O) : T P r base n (.loop c) Q ρ O :=
 T.loop (Rnd P r base n c Q) (fun m => m) m h fun s ρ O h => by
  cases s with
  | zero => exact h.elim
  | succ s => exact T.mono (show T P r base n c (thn (Rnd P r base n c Q s) Q) ρ O from h) (fun e ρ O h => by cases e <;> first | exact ⟨s, Nat.lt_succ_self s, h⟩ | exact h)
theorem T.round {P : Program} {r : Option Nat} {base : World} {n m : Nat} {c : Code} {Q : Post} {ρ : Env} {O : List Item} (h : T P r base n c (thn (Rnd P r base n c Q m) Q) ρ O) : Rnd P r base n c Q (m + 1) ρ O := h
end Go.Lx


namespace Go.Lx
open Go.RowKit
structure Mk (Wt : Type) where
 i : Nat
 d : Nat
 val : Wt → Value
 its : Wt → List Item
section
variable {P : Program} {r : Option Nat} {base : World} {n : Nat} {ρ : Env} {O S : List Item} {tail : List Nat} {ops : Array Oper} {K : Env → List Item → Prop} {Wt : Type}
theorem upd_ne {t d : Nat} {v : Value} (h : t ≠ d) : upd ρ d v t = ρ t := by
 unfold upd
 cases e : Nat.beq t d with
 | false => rfl
 | true => exact absurd (Nat.eq_of_beq_eq_true e) h
theorem upd_self {d : Nat} {v : Value} : upd ρ d v d = v := by
 unfold upd
 rw [show Nat.beq d d = true from Nat.beq_refl d]
theorem Sub.trans {A B C : List Item} (h : Sub A B) (h2 : Sub B C) : Sub A C := by
 obtain ⟨l1, p1, s1⟩ := h
 obtain ⟨l2, p2, s2⟩ := h2
 obtain ⟨l3, p3, s3⟩ := List.exists_perm_sublist s1 p2
 exact ⟨l3, p1.trans p3.symm, s3.trans s2⟩
theorem inj_of_nodup {mk : List (Mk Wt)} (h : (mk.map (·.i)).Nodup) {x y : Mk Wt} (hx : x ∈ mk) (hy : y ∈ mk) (e : x.i = y.i) : x = y := by
 induction mk with
 | nil => cases hx
 | cons q mk ih =>
  have hn1 := (List.nodup_cons.1 (by simpa using h : (q.i :: mk.map (·.i)).Nodup))
  rcases List.mem_cons.1 hx with e1 | hx1 <;> rcases List.mem_cons.1 hy with e2 | hy1
  ·rw [e1, e2]
  ·exact absurd (List.mem_map.2 ⟨y, hy1, by rw [← e, e1]⟩) hn1.1
  ·exact absurd (List.mem_map.2 ⟨x, hx1, by rw [e, e2]⟩) hn1.1
  ·exact ih hn1.2 hx1 hy1
theorem inj_of_nodup' {mk : List (Mk Wt)} (h : (mk.map (·.d)).Nodup) {x y : Mk Wt} (hx : x ∈ mk) (hy : y ∈ mk) (e : x.d = y.d) : x = y := by
 induction mk with
 | nil => cases hx
 | cons q mk ih =>
  have hn1 := (List.nodup_cons.1 (by simpa using h : (q.d :: mk.map (·.d)).Nodup))
  rcases List.mem_cons.1 hx with e1 | hx1 <;> rcases List.mem_cons.1 hy with e2 | hy1
  ·rw [e1, e2]
  ·exact absurd (List.mem_map.2 ⟨y, hy1, by rw [← e, e1]⟩) hn1.1
  ·exact absurd (List.mem_map.2 ⟨x, hx1, by rw [e, e2]⟩) hn1.1
  ·exact ih hn1.2 hx1 hy1
theorem getD_lt {l : Array Bool} {j : Nat} (h : j < l.size) (a b : Bool) : l.getD j a = l.getD j b := by simp [h]
theorem Heads.updN {d : Nat} {v : Value} : ∀ {L : List (Nat × Value)}, (∀ q ∈ L, q.1 ≠ d) → Heads L ρ → Heads L (upd ρ d v)
 | [], _, _ => trivial
 | q :: L, hd, h => ⟨by rw [upd_ne (hd q (by simp))]; exact h.1, Heads.updN (fun x hx => hd x (by simp [hx])) h.2⟩
theorem Heads.append : ∀ {L M : List (Nat × Value)}, Heads L ρ → Heads M ρ → Heads (L ++ M) ρ
 | [], _, _, h => h
 | q :: L, M, h, h2 => ⟨h.1, Heads.append h.2 h2⟩
def itsOf (listed : Array Bool) (w : Nat → Wt) (mk : List (Mk Wt)) : List Item := mk.flatMap fun q => if listed.getD q.i false = true then q.its (w q.i) else []
def left (listed : Array Bool) (mk : List (Mk Wt)) : Nat := (mk.filter fun q => !listed.getD q.i false).length
theorem left_set {listed : Array Bool} {x : Mk Wt} (hl : x.i < listed.size) (hx : listed.getD x.i false = false) : ∀ {mk : List (Mk Wt)}, (mk.map (·.i)).Nodup → x ∈ mk → left listed mk = left (listed.setIfInBounds x.i true) mk + 1
 | [], _, h => by cases h
 | q :: mk, hn, h => by
  have hn1 := (List.nodup_cons.1 (by simpa using hn : (q.i :: mk.map (·.i)).Nodup))
  have hset : (listed.setIfInBounds x.i true).getD x.i false = true := by simp [hl]
  rcases List.mem_cons.1 h with rfl | h
  ·have e : left (listed.setIfInBounds x.i true) mk = left listed mk := by
    unfold left
    congr 1
    refine List.filter_congr fun y hy => ?_
    rw [getD_set_ne false (fun e : x.i = y.i => hn1.1 (List.mem_map.2 ⟨y, hy, e.symm⟩))]
   unfold left at e ⊢
   rw [List.filter_cons_of_pos (by simp only [hx]; rfl), List.filter_cons_of_neg (by simp only [hset]; simp), e]
   rfl
  ·have ih := left_set hl hx hn1.2 h
   have hne : x.i ≠ q.i := fun e => hn1.1 (List.mem_map.2 ⟨x, h, e⟩)
   unfold left at ih ⊢
   cases hq : listed.getD q.i false with
   | true => rw [List.filter_cons_of_neg (by simp only [hq]; simp), List.filter_cons_of_neg (by rw [getD_set_ne false hne]; simp only [hq]; simp)]; exact ih
   | false => rw [List.filter_cons_of_pos (by simp only [hq]; rfl), List.filter_cons_of_pos (by rw [getD_set_ne false hne]; simp only [hq]; rfl), List.length_cons, List.length_cons, ih]
theorem its_set {listed : Array Bool} {x : Mk Wt} {w : Nat → Wt} {v : Wt} (hl : x.i < listed.size) (hx : listed.getD x.i false = false) : ∀ {mk : List (Mk Wt)}, (mk.map (·.i)).Nodup → x ∈ mk →
  (itsOf (listed.setIfInBounds x.i true) (fun j => if j = x.i then v else w j) mk).Perm (x.its v ++ itsOf listed w mk)
 | [], _, h => by cases h
 | q :: mk, hn, h => by
  have hn1 := (List.nodup_cons.1 (by simpa using hn : (q.i :: mk.map (·.i)).Nodup))
  have hset : (listed.setIfInBounds x.i true).getD x.i false = true := by simp [hl]
  rcases List.mem_cons.1 h with rfl | h
  ·have e : itsOf (listed.setIfInBounds x.i true) (fun j => if j = x.i then v else w j) mk = itsOf listed w mk := by
    unfold itsOf
    rw [List.flatMap_def, List.flatMap_def]
    congr 1
    refine List.map_congr_left fun y hy => ?_
    have hne : x.i ≠ y.i := fun e => hn1.1 (List.mem_map.2 ⟨y, hy, e.symm⟩)
    show (if (listed.setIfInBounds x.i true).getD y.i false = true then y.its (if y.i = x.i then v else w y.i) else []) = _
    rw [getD_set_ne false hne, if_neg (show ¬ y.i = x.i from fun e2 => hne e2.symm)]
   have e1 : itsOf (listed.setIfInBounds x.i true) (fun j => if j = x.i then v else w j) (x :: mk) = x.its v ++ itsOf (listed.setIfInBounds x.i true) (fun j => if j = x.i then v else w j) mk := by
    show (if (listed.setIfInBounds x.i true).getD x.i false = true then x.its (if x.i = x.i then v else w x.i) else []) ++ _ = _
    rw [if_pos hset, if_pos rfl]; rfl
   have e2 : itsOf listed w (x :: mk) = itsOf listed w mk := by
    show (if listed.getD x.i false = true then x.its (w x.i) else []) ++ _ = _
    rw [if_neg (by rw [hx]; simp)]; rfl
   rw [e1, e, e2]
  ·have ih := its_set (w := w) (v := v) hl hx hn1.2 h
   have hne : x.i ≠ q.i := fun e => hn1.1 (List.mem_map.2 ⟨x, h, e⟩)
   have e1 : itsOf (listed.setIfInBounds x.i true) (fun j => if j = x.i then v else w j) (q :: mk) = (if listed.getD q.i false = true then q.its (w q.i) else []) ++ itsOf (listed.setIfInBounds x.i true) (fun j => if j = x.i then v else w j) mk := by
    show (if (listed.setIfInBounds x.i true).getD q.i false = true then q.its (if q.i = x.i then v else w q.i) else []) ++ _ = _
    rw [getD_set_ne false hne, if_neg (fun e : q.i = x.i => hne e.symm)]; rfl
   have e2 : itsOf listed w (q :: mk) = (if listed.getD q.i false = true then q.its (w q.i) else []) ++ itsOf listed w mk := rfl
   rw [e1, e2]
   refine (List.Perm.append_left _ ih).trans ?_
   rw [← List.append_assoc, ← List.append_assoc]
   exact List.Perm.append_right _ List.perm_append_comm
def readyB (ops : Array Oper) : List Nat → Array Bool → Bool
 | [], _ => true
 | i :: l, listed => (Region.ready .any ops listed).contains i && readyB ops l (listed.setIfInBounds i true)
theorem ready_le {i : Nat} {l1 l2 : Array Bool} (h : i ∈ Region.ready .any ops l1) (hle : ∀ j, l1.getD j false = true → l2.getD j false = true) (hu : l2.getD i true = false) : i ∈ Region.ready .any ops l2 := by
 rw [mem_ready] at *
 obtain ⟨_, o, ho, hall⟩ := h
 exact ⟨hu, o, ho, fun e he hb => hle _ (hall e he hb)⟩
theorem ready_first {listed : Array Bool} : ∀ {is : List Nat} {l0 : Array Bool}, l0.size = listed.size → readyB ops is l0 = true → (∀ j, l0.getD j false = true → listed.getD j false = true) → (∃ i ∈ is, listed.getD i true = false) → ∃ i ∈ is, i ∈ Region.ready .any ops listed
 | [], _, _, _, _, ⟨_, h, _⟩ => by cases h
 | i :: is, l0, hs, hr, hle, hex => by
  simp only [readyB, Bool.and_eq_true] at hr
  have hi : i ∈ Region.ready .any ops l0 := by simpa using hr.1
  cases hu : listed.getD i true with
  | false => exact ⟨i, by simp, ready_le hi hle hu⟩
  | true =>
   obtain ⟨j, hj, hju⟩ := hex
   rcases List.mem_cons.1 hj with rfl | hj
   ·rw [hju] at hu; cases hu
   ·have hu' : ∀ j, (l0.setIfInBounds i true).getD j false = true → listed.getD j false = true := fun k hk => by
     by_cases e : i = k
     ·subst e
      have hlt : i < l0.size := by
       rcases Nat.lt_or_ge i l0.size with h' | h'
       ·exact h'
       ·simp at hk; omega
      rw [getD_lt (hs ▸ hlt) false true]; exact hu
     ·rw [getD_set_ne false e] at hk; exact hle k hk
    obtain ⟨k, hk, hkr⟩ := ready_first (by simpa using hs) hr.2 hu' ⟨j, hj, hju⟩
    exact ⟨k, by simp [hk], hkr⟩
def makersB (ops : Array Oper) (tail : List Nat) (hs : List Nat) (mk : List (Nat × Nat)) (l0 : Array Bool) : Bool :=
 Nat.beq l0.size ops.size && readyB ops (mk.map (·.1)) l0 && decide (mk.map (·.1)).Nodup && decide (mk.map (·.2)).Nodup && (mk.all fun q => hs.all fun d => !(d == q.2))
  && (mk.all fun q => waitB ops tail q.1 && Nat.blt q.1 ops.size && !tail.contains q.1 && !l0.getD q.1 false) && ((List.range ops.size).all fun j => l0.getD j false || tail.contains j || (mk.map (·.1)).contains j)
theorem RO.makers {l0 : Array Bool} (mk : List (Mk Wt)) (hs : List (Nat × Value)) {O0 : List Item} (w0 : Nat → Wt) (hB : makersB ops tail (hs.map (·.1)) (mk.map fun q => (q.i, q.d)) l0 = true) (hSO : Sub S O0) (hg : ∀ q ∈ mk, ∃ o, ops[q.i]? = some o ∧ o.guard = none ∧
   ∀ ρ O, Sub S O → Heads hs ρ → LT P r base n o ρ O (fun ρ' O' => ∃ x, ρ' = upd ρ q.d (q.val x) ∧ O' = q.its x ++ O)) {fuel : Nat}
  (hK : ∀ (w : Nat → Wt) ρ, Heads ((mk.map fun q => (q.d, q.val (w q.i))) ++ hs) ρ → RO P r base n ops S tail [] [] fuel (mk.foldl (fun l q => l.setIfInBounds q.i true) l0) K ρ ((mk.flatMap fun q => q.its (w q.i)) ++ O0))
  (hρ : Heads hs ρ) : RO P r base n ops S tail [] [] (fuel + mk.length) l0 K ρ O0 := by
 simp only [makersB, Bool.and_eq_true, List.map_map, Function.comp_def, Nat.beq_eq, decide_eq_true_eq, List.all_map] at hB
 obtain ⟨⟨⟨⟨⟨⟨b1, b2⟩, b3⟩, b4⟩, b5⟩, b6⟩, b7⟩ := hB
 have b5' : ∀ q ∈ mk, ∀ x ∈ hs, x.1 ≠ q.d := fun q hq x hx e => by
  have h1 := List.all_eq_true.1 (List.all_eq_true.1 b5 q hq) x hx
  simp [e] at h1
 have b6' : ∀ q ∈ mk, waitB ops tail q.i = true ∧ q.i < ops.size ∧ q.i ∉ tail ∧ l0.getD q.i false = false := fun q hq => by
  have h1 := List.all_eq_true.1 b6 q hq
  simp only [Bool.and_eq_true, Nat.blt_eq, Bool.not_eq_true', List.contains_eq_mem, decide_eq_false_iff_not] at h1
  exact ⟨h1.1.1.1, h1.1.1.2, h1.1.2, h1.2⟩
 have b7' : ∀ j, j < ops.size → l0.getD j false = true ∨ j ∈ tail ∨ ∃ q ∈ mk, q.i = j := fun j hj => by
  have h1 := List.all_eq_true.1 b7 j (List.mem_range.2 hj)
  simp only [Bool.or_eq_true, List.contains_eq_mem, decide_eq_true_eq, List.mem_map] at h1
  rcases h1 with (h1 | h1) | h1
  ·exact .inl h1
  ·exact .inr (.inl h1)
  ·exact .inr (.inr h1)
 have hfin : ∀ (mk' : List (Mk Wt)) (l : Array Bool) (j : Nat), (mk'.foldl (fun l q => l.setIfInBounds q.i true) l).size = l.size ∧ ((mk'.foldl (fun l q => l.setIfInBounds q.i true) l).getD j false = true ↔ (l.getD j false = true ∨ ((∃ q ∈ mk', q.i = j) ∧ j < l.size))) := by
  intro mk'
  induction mk' with
  | nil => intro l j; exact ⟨rfl, by simp⟩
  | cons q mk' ih =>
   intro l j
   obtain ⟨h1, h2⟩ := ih (l.setIfInBounds q.i true) j
   refine ⟨by rw [List.foldl_cons, h1]; simp, ?_⟩
   rw [List.foldl_cons, h2]
   by_cases e : q.i = j
   ·subst e
    by_cases hlt : q.i < l.size
    ·simp [hlt]
    ·have : l.size ≤ q.i := by omega
     simp [hlt, this]
   ·rw [getD_set_ne false e]
    simp only [Array.size_setIfInBounds, List.mem_cons, exists_eq_or_imp, e, false_or]
 suffices main : ∀ (m : Nat) (listed : Array Bool) (ρ : Env) (O : List Item) (w : Nat → Wt), left listed mk = m → listed.size = ops.size → (∀ j, (∀ q ∈ mk, q.i ≠ j) → listed.getD j false = l0.getD j false) → Heads hs ρ → (∀ q ∈ mk, listed.getD q.i false = true → ρ q.d = q.val (w q.i)) → Sub (itsOf listed w mk ++ O0) O → RO P r base n ops S tail [] [] (fuel + m) listed K ρ O by
  have e0 : left l0 mk = mk.length := by
   unfold left
   rw [List.filter_eq_self.2 fun q hq => by rw [(b6' q hq).2.2.2]; rfl]
  have e1 : itsOf l0 w0 mk = [] := by
   unfold itsOf
   refine List.flatMap_eq_nil_iff.2 fun q hq => ?_
   rw [if_neg (by rw [(b6' q hq).2.2.2]; simp)]
  refine main mk.length l0 ρ O0 w0 e0 b1 (fun _ _ => rfl) hρ (fun q hq h => ?_) (by rw [e1]; exact Sub.of (List.Sublist.refl _))
  rw [(b6' q hq).2.2.2] at h; cases h
 intro m
 induction m with
 | zero =>
  intro listed ρ O w hm hsz hoff hH hv hsub
  have hall : ∀ q ∈ mk, listed.getD q.i false = true := fun q hq => by
   cases h : listed.getD q.i false with
   | true => rfl
   | false =>
    unfold left at hm
    have h0 := List.eq_nil_of_length_eq_zero hm
    have : q ∈ mk.filter fun q => !listed.getD q.i false := List.mem_filter.2 ⟨hq, by rw [h]; rfl⟩
    rw [h0] at this; cases this
  have el : listed = mk.foldl (fun l q => l.setIfInBounds q.i true) l0 := by
   refine Array.ext ((hsz.trans b1.symm).trans (hfin mk l0 0).1.symm) fun j h1 h2 => ?_
   have hg1 : listed.getD j false = listed[j] := by simp [h1]
   have hg2 : (mk.foldl (fun l q => l.setIfInBounds q.i true) l0).getD j false = (mk.foldl (fun l q => l.setIfInBounds q.i true) l0)[j] := by simp [h2]
   rw [← hg1, ← hg2]
   have h3 := (hfin mk l0 j).2
   by_cases hq : ∃ q ∈ mk, q.i = j
   ·obtain ⟨q, hq, rfl⟩ := hq
    rw [hall q hq, h3.2 (.inr ⟨⟨q, hq, rfl⟩, by omega⟩)]
   ·have h4 := hoff j (fun q hq' e => hq ⟨q, hq', e⟩)
    rw [h4]
    cases hb : l0.getD j false with
    | true => rw [h3.2 (.inl hb)]
    | false =>
     cases hb2 : (mk.foldl (fun l q => l.setIfInBounds q.i true) l0).getD j false with
     | false => rfl
     | true =>
      rcases h3.1 hb2 with h5 | h5
      ·rw [hb] at h5; cases h5
      ·exact absurd h5.1 hq
  have ei : itsOf listed w mk = mk.flatMap fun q => q.its (w q.i) := by
   unfold itsOf
   rw [List.flatMap_def, List.flatMap_def]
   congr 1
   exact List.map_congr_left fun q hq => if_pos (hall q hq)
  have hh : Heads ((mk.map fun q => (q.d, q.val (w q.i))) ++ hs) ρ := by
   refine Heads.append ?_ hH
   have : ∀ mk' : List (Mk Wt), (∀ q ∈ mk', ρ q.d = q.val (w q.i)) → Heads (mk'.map fun q => (q.d, q.val (w q.i))) ρ := by
    intro mk'
    induction mk' with
    | nil => intro _; trivial
    | cons q mk' ih => intro h; exact ⟨h q (by simp), ih fun x hx => h x (by simp [hx])⟩
   exact this mk fun q hq => hv q hq (hall q hq)
  rw [el]
  exact RO.sub (by rw [← ei]; exact hsub) (hK w ρ hh)
 | succ m ih =>
  intro listed ρ O w hm hsz hoff hH hv hsub
  have hex : ∃ q ∈ mk, listed.getD q.i false = false := by
   cases h : mk.filter fun q => !listed.getD q.i false with
   | nil => unfold left at hm; rw [h] at hm; cases hm
   | cons q l =>
    have hq : q ∈ mk.filter fun q => !listed.getD q.i false := by rw [h]; simp
    obtain ⟨h1, h2⟩ := List.mem_filter.1 hq
    exact ⟨q, h1, by simpa using h2⟩
  have hle : ∀ j, l0.getD j false = true → listed.getD j false = true := fun j hj => by
   rw [hoff j (fun q hq e => by subst e; rw [(b6' q hq).2.2.2] at hj; cases hj)]; exact hj
  have hSub : Sub S O := hSO.trans ((Sub.of (List.sublist_append_right _ _)).trans hsub)
  intro Q a ww M D hq hp ha hI hcl hS
  refine ⟨fun h1 => ?_, fun j hj => ?_⟩
  ·obtain ⟨q, hq1, hq2⟩ := hex
   obtain ⟨i, _, hi⟩ := ready_first (is := mk.map (·.i)) (listed := listed) (by omega) b2 hle ⟨q.i, List.mem_map.2 ⟨q, hq1, rfl⟩, by rw [getD_lt (by rw [hsz]; exact (b6' q hq1).2.1) true false]; exact hq2⟩
   rw [h1] at hi; cases hi
  ·-- it is a maker
   obtain ⟨hju, oj, hoj, _⟩ := mem_ready.1 hj
   have hjs : j < ops.size := (Array.getElem?_eq_some_iff.1 hoj).1
   have hjf : listed.getD j false = false := by rw [getD_lt (by omega) false true]; exact hju
   obtain ⟨q, hq1, rfl⟩ : ∃ q ∈ mk, q.i = j := by
    rcases b7' j hjs with h1 | h1 | h1
    ·rw [hle j h1] at hjf; cases hjf
    ·obtain ⟨q, hq1, hq2⟩ := hex
     have := waitB_spec (b6' q hq1).1 hcl h1 hj
     rw [hq2] at this; cases this
    ·exact h1
   obtain ⟨o, hi, hgd, hl⟩ := hg q hq1
   unfold wpOpIn
   simp only [hi]
   rw [if_pos (by simp [Region.wanted, hgd])]
   refine hl ρ O hSub hH a ww _ _ ha hI _ _ fun a' ρ' O' w' h1 h2 h3 => ?_
   obtain ⟨x, rfl, rfl⟩ := h3
   have hcl' : classT base S tail [] [] (listed.setIfInBounds q.i true) w' := ⟨h2.emp, .inr (h2.left.subp (hSub.trans (Sub.of (List.sublist_append_right _ _)))), .inr h2.emp⟩
   refine ⟨hcl', ?_⟩
   have hlt : q.i < listed.size := by omega
   refine ih (listed.setIfInBounds q.i true) (upd ρ q.d (q.val x)) (q.its x ++ O) (fun j => if j = q.i then x else w j) ?_ (by simpa using hsz) ?_ (Heads.updN (b5' q hq1) hH) ?_ ?_ Q a' w' M D hq hp h1 h2 (closed_step hcl hj) hcl'
   ·have := left_set hlt hjf b3 hq1
    omega
   ·intro k hk
    rw [getD_set_ne false (hk q hq1)]; exact hoff k hk
   ·intro y hy hyl
    by_cases e : y.i = q.i
    ·have : y = q := by
      have hn := b3
      exact inj_of_nodup b3 hy hq1 e
     subst this
     rw [upd_self, if_pos rfl]
    ·have hd : y.d ≠ q.d := fun e2 => e (congrArg Mk.i (inj_of_nodup' b4 hy hq1 e2))
     rw [upd_ne hd, if_neg e]
     exact hv y hy (by rwa [getD_set_ne false (fun e3 => e e3.symm)] at hyl)
   ·refine Sub.trans ⟨_, (List.Perm.append_right O0 (its_set hlt hjf b3 hq1)), List.Sublist.refl _⟩ ?_
    rw [List.append_assoc]
    obtain ⟨l9, p9, s9⟩ := hsub
    exact ⟨q.its x ++ l9, List.Perm.append_left _ p9, (List.Sublist.refl _).append s9⟩
end
end Go.Lx


namespace Go.Lx
open Go.RowKit
def packI (φ : Prop) (L : List Item) : Item where
 blocks := L.flatMap Item.blocks
 P w := φ ∧ ∀ it ∈ L, it.P w
 loc w w' h := fun hp => ⟨hp.1, fun it hi => it.loc w w' (fun b hb => h b (List.mem_flatMap.2 ⟨it, hi, hb⟩)) (hp.2 it hi)⟩
theorem Inv.pack {base w : World} {φ : Prop} {L M : List Item} (hφ : φ) (h : Inv base (L ++ M) w) : Inv base (packI φ L :: M) w :=
 ⟨h.below, fun it hi => (List.mem_cons.1 hi).elim (fun e => e ▸ ⟨hφ, fun x hx => h.holds x (List.mem_append_left _ hx)⟩) fun hm => h.holds it (List.mem_append_right _ hm),
  fun it hi b hb => (List.mem_cons.1 hi).elim (fun e => by
   subst e
   obtain ⟨x, hx, hbx⟩ := List.mem_flatMap.1 hb
   exact h.fresh x (List.mem_append_left _ hx) b hbx) fun hm => h.fresh it (List.mem_append_right _ hm) b hb,
  by have := h.nodup; rwa [List.flatMap_append] at this⟩
theorem Inv.unpack {base w : World} {φ : Prop} {L M : List Item} (h : Inv base (packI φ L :: M) w) : φ ∧ Inv base (L ++ M) w := by
 have h0 := h.holds (packI φ L) List.mem_cons_self
 refine ⟨h0.1, h.below, fun it hi => (List.mem_append.1 hi).elim (h0.2 it) fun hm => h.holds it (List.mem_cons_of_mem _ hm), fun it hi b hb => (List.mem_append.1 hi).elim (fun hm => h.fresh (packI φ L) List.mem_cons_self b (List.mem_flatMap.2 ⟨it, hm, hb⟩)) fun hm => h.fresh it (List.mem_cons_of_mem _ hm) b hb, ?_⟩
 have := h.nodup
 rwa [List.flatMap_append]
section
variable {P : Program} {r : Option Nat} {base : World} {n : Nat} {c : Code} {Q : Post} {ρ : Env} {φ : Prop} {L M : List Item} {f : FuncId} {args : List Value}
theorem T.pack (hφ : φ) (h : T P r base n c Q ρ (packI φ L :: M)) : T P r base n c Q ρ (L ++ M) := fun a w N D hM ha hi =>
 h a w N D hM ha (by rw [List.append_assoc] at hi; exact Inv.pack hφ hi)
theorem T.unpack (h : φ → T P r base n c Q ρ (L ++ M)) : T P r base n c Q ρ (packI φ L :: M) := fun a w N D hM ha hi => by
 have hu := Inv.unpack (M := M ++ (mI D ++ N)) hi
 exact h hu.1 a w N D hM ha (by rw [List.append_assoc]; exact hu.2)
theorem CallT.packR {O : List Item} {R R' : Value → List Item → Prop} (h : CallT P base f args O R) (hr : ∀ v O', R v O' → ∃ φ L M, φ ∧ O' = L ++ M ∧ R' v (packI φ L :: M)) : CallT P base f args O R' := fun w N hI =>
 (h w N hI).mono fun _ _ ⟨v, O', h1, h2, h3⟩ => by
  obtain ⟨φ, L, M, hφ, rfl, hR⟩ := hr v O' h3
  exact ⟨v, packI φ L :: M, h1, Inv.pack (M := M ++ N) hφ (by rw [← List.append_assoc]; exact h2), hR⟩
theorem CallT.packO {R : Value → List Item → Prop} (h : φ → CallT P base f args (L ++ M) R) : CallT P base f args (packI φ L :: M) R := fun w N hI => by
 have hu := Inv.unpack (M := M ++ N) hI
 exact h hu.1 w N (by rw [List.append_assoc]; exact hu.2)
end
structure DK where
 nb : Option Addr
 nc : Nat
 fb : Option Addr
 fc : Nat
 qs : List Rec
abbrev dC (d : DFA) (k : DK) : List Value := dfaCells d k.nb k.nc k.fb k.fc
abbrev dV (d : DFA) (k : DK) : Value := .agg (dC d k).toArray
abbrev At (w : World) (d : DFA) (k : DK) : Prop := DfaAt w d k.nb (vals k.qs) k.fb
def dI (II Bo I : TypeId) (d : DFA) (k : DK) : Item := packI (nums k.qs = d.next) ([rowI k.nb k.nc II 1 (vals k.qs), rowI k.fb k.fc Bo 1 (bools d.final)] ++ itms I k.qs)
theorem Inv.at {base w : World} {O : List Item} {II Bo I : TypeId} {d : DFA} {k : DK} (hI : Inv base O w) (h : dI II Bo I d k ∈ O) : At w d k := by
 have h0 := hI.holds _ h
 have g : ∀ it ∈ [rowI k.nb k.nc II 1 (vals k.qs), rowI k.fb k.fc Bo 1 (bools d.final)] ++ itms I k.qs, it.P w := h0.2
 refine ⟨rowP.sl (g (rowI k.nb k.nc II 1 (vals k.qs)) (by simp)), ?_, rowP.sl (g (rowI k.fb k.fc Bo 1 (bools d.final)) (by simp))⟩
 rw [← h0.1]
 refine ⟨by simp, fun i x hx => ?_⟩
 rw [List.getElem?_map] at hx
 obtain ⟨q, hq, rfl⟩ := Option.map_eq_some_iff.1 hx
 refine ⟨q.b, q.c, by rw [List.getElem?_map, hq]; rfl, ?_⟩
 have : (Rec.itm I q).P w := g _ (List.mem_append_right _ (List.mem_map_of_mem (List.mem_of_getElem? hq)))
 exact rowP.sl this
theorem rows_rec {w : World} : ∀ {vs : List Value} {rs : List (List Int)}, RowsR w vs rs → ∃ qs : List Rec, vals qs = vs ∧ nums qs = rs
 | [], [], _ => ⟨[], rfl, rfl⟩
 | [], _ :: _, h => absurd h.1 (by simp)
 | _ :: _, [], h => absurd h.1 (by simp)
 | v :: vs, x :: rs, h => by
  obtain ⟨b, c, h1, h2⟩ := h.get (i := 0) (by simp)
  obtain ⟨qs, e1, e2⟩ := rows_rec (vs := vs) (rs := rs) ⟨by simpa using h.1, fun i y hy => by simpa using h.2 (i + 1) y (by simpa using hy)⟩
  refine ⟨⟨b, c, x⟩ :: qs, ?_, by simp [e2]⟩
  simp only [List.map_cons, e1, Rec.val]
  simp at h1
  rw [h1]
theorem DfaAt.dk {w : World} {d : DFA} {nb : Option Addr} {vs : List Value} {fb : Option Addr} (nc fc : Nat) (h : DfaAt w d nb vs fb) : ∃ k : DK, At w d k ∧ dfaCells d nb nc fb fc = dC d k := by
 obtain ⟨qs, rfl, e⟩ := rows_rec h.rows
 exact ⟨⟨nb, nc, fb, fc, qs⟩, h, rfl⟩
theorem CallT.dk {P : Program} {base : World} {f : FuncId} {args : List Value} {O : List Item} {II Bo I : TypeId} {D : DFA} {g : Value → Value} (h : CallT P base f args O fun v N => ∃ nb' nc' fb' fc' qs, v = g (.agg (dfaCells D nb' nc' fb' fc').toArray) ∧ N = [rowI nb' nc' II 1 (vals qs), rowI fb' fc' Bo 1 (bools D.final)] ++ itms I qs ∧ nums qs = D.next) :
  CallT P base f args O fun v N => ∃ k : DK, v = g (dV D k) ∧ N = [dI II Bo I D k] :=
 h.packR fun v O' hR => by
  obtain ⟨nb, nc, fb, fc, qs, rfl, rfl, hq⟩ := hR
  exact ⟨nums qs = D.next, _, [], hq, (List.append_nil _).symm, ⟨nb, nc, fb, fc, qs⟩, rfl, rfl⟩
theorem Inv.atB {base w : World} {O : List Item} {d : DFA} {k : DK} (hI : Inv base O w) (h : At base d k) : At w d k := hI.dfa h
end Go.Lx


namespace Go.Lx
open Go.RowKit
section
variable {P : Program} {base : World} {ρ : Env} {O : List Item} {dst : Option Nat} {t : TypeId} {p : String} {af : Array Edge} {g : Option (Nat × Bool)}
theorem q_ixArr {x y : Operand} {T E : TypeId} {b o n i : Nat} {k : IntKind} {z : Value} {s by_ : Nat} (hu : P.underlying T = some (.array n E)) (hi : Inf P E z s by_) (hx : ev ρ x = .pointer (some ⟨b, o, none⟩)) (hy : ev ρ y = .int k (i : Int)) (hlt : i < n) :
  QT P base ⟨dst, .indexAddr T x y, t, p, af, g⟩ ρ O (.pointer (some ⟨b, o + i * s, none⟩)) := fun w _ => by
 have h2 : (i : Int) < (n : Int) := by omega
 simp [execOp, hx, hy, Instr.indexAt, asIntOf, run_underlying' hu, hlt, run_sizeOf' hi, Instr.sureAddr, Addr.add]
 try (intro h; rcases h with h | h <;> simp [h])
end
structure WtM where
 n : Nat
 k : DK
 k2 : DK
 b : Option Addr
 c : Nat
def WtM.z : WtM := ⟨0, ⟨none, 0, none, 0, []⟩, ⟨none, 0, none, 0, []⟩, none, 0⟩
end Go.Lx


namespace Go.Lx
open Go.RowKit
theorem emask_of {e : Edge} (hb : Region.binds .any e = true) : ∀ {l : List Edge}, e ∈ l → (emask l).testBit e.on = true
 | a :: l, h => by
  rw [emask, Nat.testBit_or, Bool.or_eq_true]
  rcases List.mem_cons.1 h with rfl | h
  ·exact .inl (by rw [if_pos hb, Nat.one_shiftLeft, Nat.testBit_two_pow]; simp)
  ·exact .inr (emask_of hb h)
def rdyM (ops : Array Oper) (d j : Nat) : Bool := !d.testBit j && Nat.beq (omaskAt ops j &&& d) (omaskAt ops j)
def freeM (ops : Array Oper) (d i : Nat) : Bool := match ops[i]? with
 | none => false
 | some oi => (List.range ops.size).all fun j => Nat.beq j i || d.testBit j || (omaskAt ops j).testBit i || match ops[j]? with
  | some oj => oi.apart ops oj
  | none => true
def walkF (ops : Array Oper) (tail tail2 : List Nat) : List (Nat × Nat) → Nat → Bool
 | [], d => (List.range ops.size).all fun j => !rdyM ops d j
 | (i, 0) :: l, d => (waitB ops tail i && freeM ops d i && Nat.blt i ops.size && rdyM ops d i) && walkF ops tail tail2 l (d ||| 1 <<< i)
 | (i, 3) :: l, d => (waitB ops tail2 i && freeM ops d i && Nat.blt i ops.size && rdyM ops d i) && walkF ops tail tail2 l (d ||| 1 <<< i)
 | (i, _) :: l, d => (Nat.blt i ops.size && rdyM ops d i && (List.range ops.size).all fun j => Nat.beq j i || !rdyM ops d j) && walkF ops tail tail2 l (d ||| 1 <<< i)
def Agree (ops : Array Oper) (listed : Array Bool) (d : Nat) : Prop := listed.size = ops.size ∧ ∀ k, listed.getD k false = d.testBit k
theorem Agree.start (ops : Array Oper) : Agree ops (Array.replicate ops.size false) 0 := ⟨by simp, fun k => by
 rw [Nat.zero_testBit, Array.getD_eq_getD_getElem?, Array.getElem?_replicate]
 split <;> rfl⟩
theorem Agree.set {ops : Array Oper} {listed : Array Bool} {d i : Nat} (h : Agree ops listed d) (hi : i < ops.size) : Agree ops (listed.setIfInBounds i true) (d ||| 1 <<< i) := ⟨by simpa using h.1, fun k => by
 rw [Nat.testBit_or, Nat.one_shiftLeft, Nat.testBit_two_pow, ← h.2 k]
 by_cases e : i = k
 ·subst e
  have : i < listed.size := by rw [h.1]; exact hi
  simp [this]
 ·rw [getD_set_ne false e, decide_eq_false e, Bool.or_false]⟩
theorem Agree.ready {ops : Array Oper} {listed : Array Bool} {d j : Nat} (h : Agree ops listed d) (hj : j < ops.size) : j ∈ Region.ready .any ops listed ↔ rdyM ops d j = true := by
 have e1 : listed.getD j true = d.testBit j := by rw [← h.2 j]; exact getD_lt (by rw [h.1]; exact hj) _ _
 have ho : ops[j]? = some ops[j] := Array.getElem?_eq_getElem hj
 have hm : omaskAt ops j = emask ops[j].after.toList := by unfold omaskAt; rw [ho]
 rw [mem_ready, e1]
 unfold rdyM
 rw [Bool.and_eq_true, Bool.not_eq_true', Nat.beq_eq, hm]
 refine and_congr_right fun _ => ?_
 constructor
 ·rintro ⟨o, ho2, hall⟩
  rw [ho] at ho2; cases ho2
  refine Nat.eq_of_testBit_eq fun k => ?_
  rw [Nat.testBit_and]
  cases hk : (emask ops[j].after.toList).testBit k with
  | false => rfl
  | true =>
   obtain ⟨e, he, hb, rfl⟩ := emask_bit hk
   have := hall e (by simpa using he) hb
   rw [h.2] at this
   rw [this]; rfl
 ·intro he
  refine ⟨_, ho, fun e hmem hb => ?_⟩
  have hk := emask_of hb (l := ops[j].after.toList) (by simpa using hmem)
  rw [h.2]
  rw [← he, Nat.testBit_and, Bool.and_eq_true] at hk
  exact hk.2
theorem ready_lt {ops : Array Oper} {listed : Array Bool} {j : Nat} (h : j ∈ Region.ready .any ops listed) : j < ops.size := by
 obtain ⟨_, o, ho, _⟩ := mem_ready.1 h
 exact (Array.getElem?_eq_some_iff.1 ho).1
theorem single_of {l : List Nat} {i : Nat} (hn : l.Nodup) (h : ∀ j, j ∈ l ↔ j = i) : l = [i] := by
 cases l with
 | nil => exact absurd ((h i).2 rfl) (by simp)
 | cons a l =>
  obtain rfl : a = i := (h a).1 (by simp)
  have h1 := (List.nodup_cons.1 hn).1
  cases l with
  | nil => rfl
  | cons b l =>
   have : b = a := (h b).1 (by simp)
   subst this
   exact absurd (by simp) h1
theorem ready_nodup (ops : Array Oper) (listed : Array Bool) : (Region.ready .any ops listed).Nodup := by
 unfold Region.ready
 exact List.nodup_range.filter _
theorem free_ok {ops : Array Oper} {listed : Array Bool} {d i : Nat} (h : Agree ops listed d) (hf : freeM ops d i = true) : Region.free .any ops listed i = true := by
 unfold freeM at hf
 unfold Region.free
 cases ho : ops[i]? with
 | none => rw [ho] at hf; cases hf
 | some oi =>
  rw [ho] at hf
  simp only at hf ⊢
  rw [List.all_eq_true] at hf ⊢
  intro j hj
  have hjs : j < ops.size := List.mem_range.1 hj
  have h1 := hf j hj
  have e1 : listed.getD j true = d.testBit j := by rw [← h.2 j]; exact getD_lt (by rw [h.1]; exact hjs) _ _
  have hoj : ops[j]? = some ops[j] := Array.getElem?_eq_getElem hjs
  rw [hoj] at h1 ⊢
  simp only [Bool.or_eq_true] at h1 ⊢
  rw [e1]
  rcases h1 with ((h1 | h1) | h1) | h1
  ·exact .inl (.inl (by simpa using h1))
  ·exact .inl (.inr h1)
  ·obtain ⟨o, ho2, e, he, hb, hon⟩ := omaskAt_bit h1
   rw [hoj] at ho2; cases ho2
   exact .inr (.inl (Array.any_eq_true'.2 ⟨e, he, by rw [hb, hon]; simp⟩))
  ·exact .inr (.inr h1)
theorem loud_ok {ops : Array Oper} {tail tail2 : List Nat} {i : Nat} {l : List (Nat × Nat)} {listed : Array Bool} {d : Nat} (h : Agree ops listed d) (ih : ∀ {listed : Array Bool} {d : Nat}, Agree ops listed d → walkF ops tail tail2 l d = true → walkB ops tail tail2 l listed = true) (hw : ((Nat.blt i ops.size && rdyM ops d i && (List.range ops.size).all fun j => Nat.beq j i || !rdyM ops d j) && walkF ops tail tail2 l (d ||| 1 <<< i)) = true) : ((Region.ready .any ops listed == [i]) && walkB ops tail tail2 l (listed.setIfInBounds i true)) = true := by
 simp only [Bool.and_eq_true, Nat.blt_eq, List.all_eq_true, Bool.or_eq_true, Nat.beq_eq, Bool.not_eq_true'] at hw
 obtain ⟨⟨⟨h1, h2⟩, h3⟩, h4⟩ := hw
 rw [Bool.and_eq_true]
 refine ⟨?_, ih (h.set h1) h4⟩
 rw [beq_iff_eq]
 refine single_of (ready_nodup _ _) fun j => ⟨fun hj => ?_, fun e => e ▸ (h.ready h1).2 h2⟩
 have hjs := ready_lt hj
 rcases h3 j (List.mem_range.2 hjs) with e | e
 ·exact e
 ·rw [(h.ready hjs).1 hj] at e; cases e
theorem walkF_ok {ops : Array Oper} {tail tail2 : List Nat} : ∀ {l : List (Nat × Nat)} {listed : Array Bool} {d : Nat}, Agree ops listed d → walkF ops tail tail2 l d = true → walkB ops tail tail2 l listed = true
 | [], listed, d, h, hw => by
  simp only [walkF, List.all_eq_true] at hw
  show (Region.ready .any ops listed).isEmpty = true
  cases hr : Region.ready .any ops listed with
  | nil => rfl
  | cons j r =>
   have hj : j ∈ Region.ready .any ops listed := by rw [hr]; simp
   have h1 := hw j (List.mem_range.2 (ready_lt hj))
   rw [(h.ready (ready_lt hj)).1 hj] at h1; cases h1
 | (i, 0) :: l, listed, d, h, hw => by
  simp only [walkF, Bool.and_eq_true, Nat.blt_eq] at hw
  obtain ⟨⟨⟨⟨h1, h2⟩, h3⟩, h4⟩, h5⟩ := hw
  simp only [walkB, Bool.and_eq_true]
  exact ⟨⟨⟨h1, free_ok h h2⟩, by simpa using (h.ready h3).2 h4⟩, walkF_ok (h.set h3) h5⟩
 | (i, 3) :: l, listed, d, h, hw => by
  simp only [walkF, Bool.and_eq_true, Nat.blt_eq] at hw
  obtain ⟨⟨⟨⟨h1, h2⟩, h3⟩, h4⟩, h5⟩ := hw
  simp only [walkB, Bool.and_eq_true]
  exact ⟨⟨⟨h1, free_ok h h2⟩, by simpa using (h.ready h3).2 h4⟩, walkF_ok (h.set h3) h5⟩
 | (i, 1) :: l, listed, d, h, hw => loud_ok h walkF_ok hw
 | (i, 2) :: l, listed, d, h, hw => loud_ok h walkF_ok hw
 | (i, m + 4) :: l, listed, d, h, hw => loud_ok h walkF_ok hw
def drawF (ops : Array Oper) (l : List (Nat × Nat)) : Bool := (Region.noSelect ops && noDeferB ops && Nat.beq l.length ops.size && (l.all fun q => (q.2 == 2 || !(tailOf l).contains q.1) && (q.2 == 2 || q.2 == 4 || !(tailOf2 l).contains q.1))) && walkF ops (tailOf l) (tailOf2 l) l 0
theorem drawF_ok {ops : Array Oper} {l : List (Nat × Nat)} (h : drawF ops l = true) : drawB ops l = true := by
 simp only [drawF, Bool.and_eq_true, Nat.beq_eq] at h
 obtain ⟨⟨⟨⟨h1, h2⟩, h3⟩, h4⟩, h5⟩ := h
 simp only [drawB, Bool.and_eq_true]
 exact ⟨⟨⟨⟨h1, h2⟩, by rw [h3]; simp⟩, h4⟩, walkF_ok (Agree.start ops) h5⟩
end Go.Lx


namespace Go.Proofs.YtnpehjpookcfkaaGreatDoor
open Go.Lx Go.RowKit _root_.Go.Proofs.Tryz
theorem mixed : Tryz.prog.follows .mixedOrders = true := by kernel_rfl
theorem inf3 : Inf Tryz.prog 3 (.int .i64 0) 1 8 := by unfold Inf; kernel_rfl
theorem inf4 : Inf Tryz.prog 4 (.bool false) 1 1 := by unfold Inf; kernel_rfl
theorem inf5 : Inf Tryz.prog 5 (.int .u8 0) 1 1 := by unfold Inf; kernel_rfl
theorem inf22 : Inf Tryz.prog 22 ((.slice none 0 0)) 1 24 := by unfold Inf; kernel_rfl
theorem inf23 : Inf Tryz.prog 23 ((.slice none 0 0)) 1 24 := by unfold Inf; kernel_rfl
theorem inf25 : Inf Tryz.prog 25 ((.agg #[(.int .i64 0), (.int .i64 0), (.slice none 0 0), (.slice none 0 0)])) 4 64 := by unfold Inf; kernel_rfl
theorem inf27 : Inf Tryz.prog 27 ((.agg #[(.int .i64 0), (.int .i64 0), (.slice none 0 0), (.slice none 0 0), (.int .i64 0), (.int .i64 0), (.slice none 0 0), (.slice none 0 0)])) 8 128 := by unfold Inf; kernel_rfl
theorem inf30 : Inf Tryz.prog 30 (.int .i64 0) 1 8 := by unfold Inf; kernel_rfl
theorem inf34 : Inf Tryz.prog 34 ((.slice none 0 0)) 1 24 := by unfold Inf; kernel_rfl
theorem inf48 : Inf Tryz.prog 48 ((.slice none 0 0)) 1 24 := by unfold Inf; kernel_rfl
theorem inf50 : Inf Tryz.prog 50 ((.agg #[(.int .i64 0), (.int .i64 0), (.slice none 0 0), (.slice none 0 0), (.int .i64 0), (.int .i64 0), (.slice none 0 0), (.slice none 0 0)])) 8 128 := by unfold Inf; kernel_rfl
theorem inf57 : Inf Tryz.prog 57 ((.agg #[(.int .i64 0)])) 1 8 := by unfold Inf; kernel_rfl
theorem inf59 : Inf Tryz.prog 59 ((.agg #[(.int .i64 0), (.int .i64 0), (.int .i64 0), (.slice none 0 0), (.slice none 0 0), (.int .i64 0), (.int .i64 0), (.slice none 0 0), (.slice none 0 0)])) 9 136 := by unfold Inf; kernel_rfl
theorem inf65 : Inf Tryz.prog 65 ((.agg #[(.int .i64 0)])) 1 8 := by unfold Inf; kernel_rfl
theorem inf81 : Inf Tryz.prog 81 ((.agg #[(.int .i64 0), (.int .i64 0), (.slice none 0 0), (.slice none 0 0), (.int .i64 0), (.int .i64 0), (.slice none 0 0), (.slice none 0 0), (.int .i64 0), (.int .i64 0), (.slice none 0 0), (.slice none 0 0), (.int .i64 0), (.int .i64 0), (.slice none 0 0), (.slice none 0 0)])) 16 256 := by unfold Inf; kernel_rfl
theorem inf107 : Inf Tryz.prog 107 (.pointer none) 1 8 := by unfold Inf; kernel_rfl
theorem inf114 : Inf Tryz.prog 114 ((.agg #[(.int .i64 0), (.int .i64 0)])) 2 16 := by unfold Inf; kernel_rfl
theorem inf115 : Inf Tryz.prog 115 ((.slice none 0 0)) 1 24 := by unfold Inf; kernel_rfl
theorem inf116 : Inf Tryz.prog 116 (.map none) 1 8 := by unfold Inf; kernel_rfl
theorem inf118 : Inf Tryz.prog 118 ((.agg #[(.int .i64 0), (.int .i64 0), (.slice none 0 0), (.slice none 0 0), (.int .i64 0), (.int .i64 0), (.slice none 0 0), (.slice none 0 0), (.slice none 0 0), (.map none)])) 10 160 := by unfold Inf; kernel_rfl
theorem inf120 : Inf Tryz.prog 120 ((.agg #[(.int .i64 0), (.slice none 0 0)])) 2 32 := by unfold Inf; kernel_rfl
theorem inf123 : Inf Tryz.prog 123 ((.agg #[(.int .i64 0), (.int .i64 0)])) 2 16 := by unfold Inf; kernel_rfl
theorem inf129 : Inf Tryz.prog 129 (.map none) 1 8 := by unfold Inf; kernel_rfl
theorem inf131 : Inf Tryz.prog 131 (.nilFunc) 1 8 := by unfold Inf; kernel_rfl
theorem inf141 : Inf Tryz.prog 141 ((.agg #[(.int .i64 0), (.int .i64 0), (.slice none 0 0), (.slice none 0 0)])) 4 64 := by unfold Inf; kernel_rfl
theorem inf145 : Inf Tryz.prog 145 ((.agg #[(.int .u8 0), (.int .u8 0), (.int .u8 0), (.int .u8 0), (.int .u8 0), (.int .u8 0), (.int .u8 0), (.int .u8 0), (.int .u8 0), (.int .u8 0), (.int .u8 0), (.int .u8 0), (.int .u8 0), (.int .u8 0), (.int .u8 0), (.int .u8 0), (.int .u8 0), (.int .u8 0), (.int .u8 0), (.int .u8 0), (.int .u8 0), (.int .u8 0), (.int .u8 0), (.int .u8 0)])) 24 24 := by unfold Inf; kernel_rfl
theorem plan25 : Plan Tryz.prog 25 [(0, 1), (1, 1), (2, 1), (3, 1)] := ⟨_, underlying25, fun w => by simp [run_sizeOf' inf3, run_sizeOf' inf22, run_sizeOf' inf23]⟩
theorem plan27 : Plan Tryz.prog 27 [(0, 4), (4, 4)] := ⟨_, underlying27, fun w => by simp [run_sizeOf' inf25]⟩
theorem plan57 : Plan Tryz.prog 57 [(0, 1)] := ⟨_, underlying57, fun w => by simp [run_sizeOf' inf30]⟩
theorem plan59 : Plan Tryz.prog 59 [(0, 1), (1, 4), (5, 4)] := ⟨_, underlying59, fun w => by simp [run_sizeOf' inf25, run_sizeOf' inf57]⟩
theorem plan65 : Plan Tryz.prog 65 [(0, 1)] := ⟨_, underlying65, fun w => by simp [run_sizeOf' inf30]⟩
theorem plan114 : Plan Tryz.prog 114 [(0, 1), (1, 1)] := ⟨_, underlying114, fun w => by simp [run_sizeOf' inf3]⟩
theorem plan118 : Plan Tryz.prog 118 [(0, 4), (4, 4), (8, 1), (9, 1)] := ⟨_, underlying118, fun w => by simp [run_sizeOf' inf25, run_sizeOf' inf115, run_sizeOf' inf116]⟩
theorem plan120 : Plan Tryz.prog 120 [(0, 1), (1, 1)] := ⟨_, underlying120, fun w => by simp [run_sizeOf' inf3, run_sizeOf' inf34]⟩
theorem plan141 : Plan Tryz.prog 141 [(0, 4)] := ⟨_, underlying141, fun w => by simp [run_sizeOf' inf25]⟩
theorem ent3 : Lx.Enters Tryz.prog 3 f3 := ⟨func3, by kernel_rfl, rfl⟩
theorem ent4 : Lx.Enters Tryz.prog 4 f4 := ⟨func4, by kernel_rfl, rfl⟩
theorem ent6 : Lx.Enters Tryz.prog 6 f6 := ⟨func6, by kernel_rfl, rfl⟩
theorem ent7 : Lx.Enters Tryz.prog 7 f7 := ⟨func7, by kernel_rfl, rfl⟩
theorem ent8 : Lx.Enters Tryz.prog 8 f8 := ⟨func8, by kernel_rfl, rfl⟩
theorem ent9 : Lx.Enters Tryz.prog 9 f9 := ⟨func9, by kernel_rfl, rfl⟩
theorem ent10 : Lx.Enters Tryz.prog 10 f10 := ⟨func10, by kernel_rfl, rfl⟩
theorem ent11 : Lx.Enters Tryz.prog 11 f11 := ⟨func11, by kernel_rfl, rfl⟩
theorem ent12 : Lx.Enters Tryz.prog 12 f12 := ⟨func12, by kernel_rfl, rfl⟩
theorem ent13 : Lx.Enters Tryz.prog 13 f13 := ⟨func13, by kernel_rfl, rfl⟩
theorem ent14 : Lx.Enters Tryz.prog 14 f14 := ⟨func14, by kernel_rfl, rfl⟩
theorem ent15 : Lx.Enters Tryz.prog 15 f15 := ⟨func15, by kernel_rfl, rfl⟩
theorem ent16 : Lx.Enters Tryz.prog 16 f16 := ⟨func16, by kernel_rfl, rfl⟩
theorem ent17 : Lx.Enters Tryz.prog 17 f17 := ⟨func17, by kernel_rfl, rfl⟩
theorem ent18 : Lx.Enters Tryz.prog 18 f18 := ⟨func18, by kernel_rfl, rfl⟩
theorem ent19 : Lx.Enters Tryz.prog 19 f19 := ⟨func19, by kernel_rfl, rfl⟩
theorem ent20 : Lx.Enters Tryz.prog 20 f20 := ⟨func20, by kernel_rfl, rfl⟩
theorem ent21 : Lx.Enters Tryz.prog 21 f21 := ⟨func21, by kernel_rfl, rfl⟩
theorem ent22 : Lx.Enters Tryz.prog 22 f22 := ⟨func22, by kernel_rfl, rfl⟩
theorem ent23 : Lx.Enters Tryz.prog 23 f23 := ⟨func23, by kernel_rfl, rfl⟩
theorem ent24 : Lx.Enters Tryz.prog 24 f24 := ⟨func24, by kernel_rfl, rfl⟩
theorem ent25 : Lx.Enters Tryz.prog 25 f25 := ⟨func25, by kernel_rfl, rfl⟩
theorem ent26 : Lx.Enters Tryz.prog 26 f26 := ⟨func26, by kernel_rfl, rfl⟩
theorem ent27 : Lx.Enters Tryz.prog 27 f27 := ⟨func27, by kernel_rfl, rfl⟩
theorem ent28 : Lx.Enters Tryz.prog 28 f28 := ⟨func28, by kernel_rfl, rfl⟩
theorem ent29 : Lx.Enters Tryz.prog 29 f29 := ⟨func29, by kernel_rfl, rfl⟩
theorem ent30 : Lx.Enters Tryz.prog 30 f30 := ⟨func30, by kernel_rfl, rfl⟩
theorem ent31 : Lx.Enters Tryz.prog 31 f31 := ⟨func31, by kernel_rfl, rfl⟩
theorem ent32 : Lx.Enters Tryz.prog 32 f32 := ⟨func32, by kernel_rfl, rfl⟩
theorem ent33 : Lx.Enters Tryz.prog 33 f33 := ⟨func33, by kernel_rfl, rfl⟩
theorem ent34 : Lx.Enters Tryz.prog 34 f34 := ⟨func34, by kernel_rfl, rfl⟩
theorem ent35 : Lx.Enters Tryz.prog 35 f35 := ⟨func35, by kernel_rfl, rfl⟩
theorem ent36 : Lx.Enters Tryz.prog 36 f36 := ⟨func36, by kernel_rfl, rfl⟩
theorem ent37 : Lx.Enters Tryz.prog 37 f37 := ⟨func37, by kernel_rfl, rfl⟩
theorem ent38 : Lx.Enters Tryz.prog 38 f38 := ⟨func38, by kernel_rfl, rfl⟩
theorem ent39 : Lx.Enters Tryz.prog 39 f39 := ⟨func39, by kernel_rfl, rfl⟩
theorem ent40 : Lx.Enters Tryz.prog 40 f40 := ⟨func40, by kernel_rfl, rfl⟩
theorem ent41 : Lx.Enters Tryz.prog 41 f41 := ⟨func41, by kernel_rfl, rfl⟩
theorem ent42 : Lx.Enters Tryz.prog 42 f42 := ⟨func42, by kernel_rfl, rfl⟩
theorem ent43 : Lx.Enters Tryz.prog 43 f43 := ⟨func43, by kernel_rfl, rfl⟩
theorem ent44 : Lx.Enters Tryz.prog 44 f44 := ⟨func44, by kernel_rfl, rfl⟩
theorem ent45 : Lx.Enters Tryz.prog 45 f45 := ⟨func45, by kernel_rfl, rfl⟩
theorem ent46 : Lx.Enters Tryz.prog 46 f46 := ⟨func46, by kernel_rfl, rfl⟩
theorem ent47 : Lx.Enters Tryz.prog 47 f47 := ⟨func47, by kernel_rfl, rfl⟩
theorem ent48 : Lx.Enters Tryz.prog 48 f48 := ⟨func48, by kernel_rfl, rfl⟩
theorem ent49 : Lx.Enters Tryz.prog 49 f49 := ⟨func49, by kernel_rfl, rfl⟩
theorem ent50 : Lx.Enters Tryz.prog 50 f50 := ⟨func50, by kernel_rfl, rfl⟩
theorem ent51 : Lx.Enters Tryz.prog 51 f51 := ⟨func51, by kernel_rfl, rfl⟩
theorem ent52 : Lx.Enters Tryz.prog 52 f52 := ⟨func52, by kernel_rfl, rfl⟩
theorem ent53 : Lx.Enters Tryz.prog 53 f53 := ⟨func53, by kernel_rfl, rfl⟩
theorem ent54 : Lx.Enters Tryz.prog 54 f54 := ⟨func54, by kernel_rfl, rfl⟩
theorem ent55 : Lx.Enters Tryz.prog 55 f55 := ⟨func55, by kernel_rfl, rfl⟩
theorem ent56 : Lx.Enters Tryz.prog 56 f56 := ⟨func56, by kernel_rfl, rfl⟩
theorem ent57 : Lx.Enters Tryz.prog 57 f57 := ⟨func57, by kernel_rfl, rfl⟩
theorem ent58 : Lx.Enters Tryz.prog 58 f58 := ⟨func58, by kernel_rfl, rfl⟩
theorem ent59 : Lx.Enters Tryz.prog 59 f59 := ⟨func59, by kernel_rfl, rfl⟩
theorem ent60 : Lx.Enters Tryz.prog 60 f60 := ⟨func60, by kernel_rfl, rfl⟩
theorem ent61 : Lx.Enters Tryz.prog 61 f61 := ⟨func61, by kernel_rfl, rfl⟩
theorem ent62 : Lx.Enters Tryz.prog 62 f62 := ⟨func62, by kernel_rfl, rfl⟩
theorem ent63 : Lx.Enters Tryz.prog 63 f63 := ⟨func63, by kernel_rfl, rfl⟩
theorem ent64 : Lx.Enters Tryz.prog 64 f64 := ⟨func64, by kernel_rfl, rfl⟩
theorem ent65 : Lx.Enters Tryz.prog 65 f65 := ⟨func65, by kernel_rfl, rfl⟩
theorem ent66 : Lx.Enters Tryz.prog 66 f66 := ⟨func66, by kernel_rfl, rfl⟩
theorem ent67 : Lx.Enters Tryz.prog 67 f67 := ⟨func67, by kernel_rfl, rfl⟩
theorem ent68 : Lx.Enters Tryz.prog 68 f68 := ⟨func68, by kernel_rfl, rfl⟩
theorem ent69 : Lx.Enters Tryz.prog 69 f69 := ⟨func69, by kernel_rfl, rfl⟩
theorem ent70 : Lx.Enters Tryz.prog 70 f70 := ⟨func70, by kernel_rfl, rfl⟩
theorem ent71 : Lx.Enters Tryz.prog 71 f71 := ⟨func71, by kernel_rfl, rfl⟩
theorem ent72 : Lx.Enters Tryz.prog 72 f72 := ⟨func72, by kernel_rfl, rfl⟩
theorem ent73 : Lx.Enters Tryz.prog 73 f73 := ⟨func73, by kernel_rfl, rfl⟩
theorem ent74 : Lx.Enters Tryz.prog 74 f74 := ⟨func74, by kernel_rfl, rfl⟩
theorem ent75 : Lx.Enters Tryz.prog 75 f75 := ⟨func75, by kernel_rfl, rfl⟩
theorem ent76 : Lx.Enters Tryz.prog 76 f76 := ⟨func76, by kernel_rfl, rfl⟩
theorem ent77 : Lx.Enters Tryz.prog 77 f77 := ⟨func77, by kernel_rfl, rfl⟩
theorem ent78 : Lx.Enters Tryz.prog 78 f78 := ⟨func78, by kernel_rfl, rfl⟩
theorem ent79 : Lx.Enters Tryz.prog 79 f79 := ⟨func79, by kernel_rfl, rfl⟩
theorem ent80 : Lx.Enters Tryz.prog 80 f80 := ⟨func80, by kernel_rfl, rfl⟩
theorem ent81 : Lx.Enters Tryz.prog 81 f81 := ⟨func81, by kernel_rfl, rfl⟩
theorem ent82 : Lx.Enters Tryz.prog 82 f82 := ⟨func82, by kernel_rfl, rfl⟩
theorem ent83 : Lx.Enters Tryz.prog 83 f83 := ⟨func83, by kernel_rfl, rfl⟩
theorem ent84 : Lx.Enters Tryz.prog 84 f84 := ⟨func84, by kernel_rfl, rfl⟩
theorem ent85 : Lx.Enters Tryz.prog 85 f85 := ⟨func85, by kernel_rfl, rfl⟩
theorem ent86 : Lx.Enters Tryz.prog 86 f86 := ⟨func86, by kernel_rfl, rfl⟩
theorem ent87 : Lx.Enters Tryz.prog 87 f87 := ⟨func87, by kernel_rfl, rfl⟩
theorem ent88 : Lx.Enters Tryz.prog 88 f88 := ⟨func88, by kernel_rfl, rfl⟩
theorem ent89 : Lx.Enters Tryz.prog 89 f89 := ⟨func89, by kernel_rfl, rfl⟩
theorem ent90 : Lx.Enters Tryz.prog 90 f90 := ⟨func90, by kernel_rfl, rfl⟩
theorem ent91 : Lx.Enters Tryz.prog 91 f91 := ⟨func91, by kernel_rfl, rfl⟩
theorem ent92 : Lx.Enters Tryz.prog 92 f92 := ⟨func92, by kernel_rfl, rfl⟩
theorem ent93 : Lx.Enters Tryz.prog 93 f93 := ⟨func93, by kernel_rfl, rfl⟩
theorem ent94 : Lx.Enters Tryz.prog 94 f94 := ⟨func94, by kernel_rfl, rfl⟩
theorem ent95 : Lx.Enters Tryz.prog 95 f95 := ⟨func95, by kernel_rfl, rfl⟩
theorem ent96 : Lx.Enters Tryz.prog 96 f96 := ⟨func96, by kernel_rfl, rfl⟩
theorem ent97 : Lx.Enters Tryz.prog 97 f97 := ⟨func97, by kernel_rfl, rfl⟩
theorem ent98 : Lx.Enters Tryz.prog 98 f98 := ⟨func98, by kernel_rfl, rfl⟩
theorem ent99 : Lx.Enters Tryz.prog 99 f99 := ⟨func99, by kernel_rfl, rfl⟩
theorem ent100 : Lx.Enters Tryz.prog 100 f100 := ⟨func100, by kernel_rfl, rfl⟩
theorem ent101 : Lx.Enters Tryz.prog 101 f101 := ⟨func101, by kernel_rfl, rfl⟩
theorem ent102 : Lx.Enters Tryz.prog 102 f102 := ⟨func102, by kernel_rfl, rfl⟩
theorem ent103 : Lx.Enters Tryz.prog 103 f103 := ⟨func103, by kernel_rfl, rfl⟩
theorem ent104 : Lx.Enters Tryz.prog 104 f104 := ⟨func104, by kernel_rfl, rfl⟩
theorem ent106 : Lx.Enters Tryz.prog 106 f106 := ⟨func106, by kernel_rfl, rfl⟩
theorem ent107 : Lx.Enters Tryz.prog 107 f107 := ⟨func107, by kernel_rfl, rfl⟩
theorem ent108 : Lx.Enters Tryz.prog 108 f108 := ⟨func108, by kernel_rfl, rfl⟩
theorem ent109 : Lx.Enters Tryz.prog 109 f109 := ⟨func109, by kernel_rfl, rfl⟩
theorem ent110 : Lx.Enters Tryz.prog 110 f110 := ⟨func110, by kernel_rfl, rfl⟩
theorem ent111 : Lx.Enters Tryz.prog 111 f111 := ⟨func111, by kernel_rfl, rfl⟩
theorem ent112 : Lx.Enters Tryz.prog 112 f112 := ⟨func112, by kernel_rfl, rfl⟩
theorem ent113 : Lx.Enters Tryz.prog 113 f113 := ⟨func113, by kernel_rfl, rfl⟩
theorem ent114 : Lx.Enters Tryz.prog 114 f114 := ⟨func114, by kernel_rfl, rfl⟩
theorem ent115 : Lx.Enters Tryz.prog 115 f115 := ⟨func115, by kernel_rfl, rfl⟩
theorem ent117 : Lx.Enters Tryz.prog 117 f117 := ⟨func117, by kernel_rfl, rfl⟩
theorem ent118 : Lx.Enters Tryz.prog 118 f118 := ⟨func118, by kernel_rfl, rfl⟩
theorem ent119 : Lx.Enters Tryz.prog 119 f119 := ⟨func119, by kernel_rfl, rfl⟩
theorem ent120 : Lx.Enters Tryz.prog 120 f120 := ⟨func120, by kernel_rfl, rfl⟩
theorem ent121 : Lx.Enters Tryz.prog 121 f121 := ⟨func121, by kernel_rfl, rfl⟩
theorem ent123 : Lx.Enters Tryz.prog 123 f123 := ⟨func123, by kernel_rfl, rfl⟩
end Go.Proofs.YtnpehjpookcfkaaGreatDoor


namespace Go.Proofs.YtnpehjpookcfkaaGreatDoor
open Go.Lx Go.RowKit _root_.Go.Proofs.Tryz
theorem equalInts (w : World) (b1 b2 : Option Addr) (c1 c2 : Nat) (xs ys : List Int) (h1 : Sl w b1 (ints xs)) (h2 : Sl w b2 (ints ys)) (hb : xs.length < 9223372036854775807) :
  PureT Tryz.prog 78 [(.slice b1 xs.length c1), (.slice b2 ys.length c2)] w fun v N => v = .bool (decide (xs = ys)) ∧ N = [] := by
 refine CallT.enter func78 rfl ntmps78 rfl ?_
 refine T.s (T.rg (TO.qa rfl (TO.nl (T.s (T.s (T.rg (TO.qm rfl (TO.q (q_len underlying48 rfl) (TO.qm rfl (TO.q (q_len underlying48 rfl) (TO.q (q_neq rfl rfl) (TO.nl (T.condP rfl (fun hc => ?_) (fun hc => ?_))))))))))))))
 ·have hlt10 : xs.length ≠ ys.length := by omega
  have hlen : xs.length ≠ ys.length := by omega
  refine T.s (T.rg (TO.qa rfl (TO.nl (T.ret ?_))))
  refine Res.one (.bool false) Tryz.results78 rfl ?_
  exact ⟨congrArg Value.bool (decide_eq_false (fun e => hlen (by rw [e]))).symm, rfl⟩
 have hge10 : ¬ xs.length ≠ ys.length := by omega
 have hlen : xs.length = ys.length := by omega
 refine T.skip (T.s (T.s (T.rg (TO.qa rfl (TO.nl (T.block ?_))))))
 refine T.loop (fun (k : Nat) ρ O => O = [] ∧ k ≤ xs.length ∧ xs.take k = ys.take k ∧ Heads [(0, (.slice b1 xs.length c1)), (1, (.slice b2 ys.length c2)), (5, vI (k : Int))] ρ) (fun k => xs.length - k) 0 ?_ ?_
 ·exact ⟨rfl, Nat.zero_le _, rfl, ⟨rfl, rfl, rfl, trivial⟩⟩
 rintro k ρ O ⟨rfl, hk, he, hH⟩
 obtain ⟨ρ0, rfl⟩ := hH.elim
 clear hH
 refine T.s (T.s (T.rg (TO.qm rfl (TO.qm rfl (TO.q (q_len underlying48 rfl) (TO.q (q_lss rfl rfl) (TO.nl (T.condP rfl (fun hc => ?_) (fun hc => ?_)))))))))
 ·have hlt14 : k < xs.length := by omega
  have hlt : k < xs.length := by omega
  have hlt2 : k < ys.length := by omega
  obtain ⟨kb1, ko1, rfl⟩ := h1.addr (i := k) (by simpa using hlt)
  obtain ⟨kb2, ko2, rfl⟩ := h2.addr (i := k) (by simpa using hlt2)
  refine T.skip (T.s (T.block (T.s ?_)))
  refine T.draws _ [(0, 0), (1, 0), (2, 0), (3, 0), (4, 0), (5, 0), (6, 0), (7, 0), (8, 0)] mixed (by kernel_rfl) (Sub.of (List.Sublist.refl _)) (fun _ _ _ h => h) ?_
  refine DO.q rfl (q_move rfl) (DO.q rfl (q_move rfl) (DO.q rfl (q_idx underlying48 inf3 rfl rfl hlt) (DO.q rfl (q_load_sl underlying3 rfl rfl h1 (ints_get hlt)) (DO.q rfl (q_move rfl) (DO.q rfl (q_move rfl) (DO.q rfl (q_idx underlying48 inf3 rfl rfl hlt2) (DO.q rfl (q_load_sl underlying3 rfl rfl h2 (ints_get hlt2)) (DO.q rfl (q_neq rfl rfl) ?_))))))))
  refine DO.done ?_
  refine T.condP (p := ¬ xs[k] = ys[k]) rfl (fun hc => ?_) (fun hc => ?_)
  ·refine T.s ?_
   refine T.rg (TO.qa rfl (TO.nl (T.ret ?_)))
   refine Res.one (.bool false) Tryz.results78 rfl ?_
   exact ⟨congrArg Value.bool (decide_eq_false (fun e => hc (by subst e; rfl))).symm, rfl⟩
  refine T.skip (T.rg (TO.qm rfl (TO.q (q_inc rfl rfl (by omega)) (TO.qa rfl (TO.nl ?_)))))
  refine ⟨k + 1, by omega, rfl, by omega, ?_, ⟨rfl, rfl, rfl, trivial⟩⟩
  rw [List.take_succ_eq_append_getElem hlt, List.take_succ_eq_append_getElem hlt2, he]
  exact congrArg _ (congrArg (fun z => [z]) (Classical.not_not.1 hc))
 have hge14 : ¬ k < xs.length := by omega
 refine T.exit ?_
 refine T.s (T.rg (TO.qa rfl (TO.nl (T.ret ?_))))
 refine Res.one (.bool true) Tryz.results78 rfl ?_
 exact ⟨congrArg Value.bool (decide_eq_true (show xs = ys by rw [List.take_of_length_le (by omega), List.take_of_length_le (by omega)] at he; exact he)).symm, rfl⟩
theorem equalBools (w : World) (b1 b2 : Option Addr) (c1 c2 : Nat) (xs ys : List Bool) (h1 : Sl w b1 (bools xs)) (h2 : Sl w b2 (bools ys)) (hb : xs.length < 9223372036854775807) :
  PureT Tryz.prog 50 [(.slice b1 xs.length c1), (.slice b2 ys.length c2)] w fun v N => v = .bool (decide (xs = ys)) ∧ N = [] := by
 refine CallT.enter func50 rfl ntmps50 rfl ?_
 refine T.s (T.rg (TO.qa rfl (TO.nl (T.s (T.s (T.rg (TO.qm rfl (TO.q (q_len underlying23 rfl) (TO.qm rfl (TO.q (q_len underlying23 rfl) (TO.q (q_neq rfl rfl) (TO.nl (T.condP rfl (fun hc => ?_) (fun hc => ?_))))))))))))))
 ·have hlt10 : xs.length ≠ ys.length := by omega
  have hlen : xs.length ≠ ys.length := by omega
  refine T.s (T.rg (TO.qa rfl (TO.nl (T.ret ?_))))
  refine Res.one (.bool false) Tryz.results50 rfl ?_
  exact ⟨congrArg Value.bool (decide_eq_false (fun e => hlen (by rw [e]))).symm, rfl⟩
 have hge10 : ¬ xs.length ≠ ys.length := by omega
 have hlen : xs.length = ys.length := by omega
 refine T.skip (T.s (T.s (T.rg (TO.qa rfl (TO.nl (T.block ?_))))))
 refine T.loop (fun (k : Nat) ρ O => O = [] ∧ k ≤ xs.length ∧ xs.take k = ys.take k ∧ Heads [(0, (.slice b1 xs.length c1)), (1, (.slice b2 ys.length c2)), (5, vI (k : Int))] ρ) (fun k => xs.length - k) 0 ?_ ?_
 ·exact ⟨rfl, Nat.zero_le _, rfl, ⟨rfl, rfl, rfl, trivial⟩⟩
 rintro k ρ O ⟨rfl, hk, he, hH⟩
 obtain ⟨ρ0, rfl⟩ := hH.elim
 clear hH
 refine T.s (T.s (T.rg (TO.qm rfl (TO.qm rfl (TO.q (q_len underlying23 rfl) (TO.q (q_lss rfl rfl) (TO.nl (T.condP rfl (fun hc => ?_) (fun hc => ?_)))))))))
 ·have hlt14 : k < xs.length := by omega
  have hlt : k < xs.length := by omega
  have hlt2 : k < ys.length := by omega
  obtain ⟨kb1, ko1, rfl⟩ := h1.addr (i := k) (by simpa using hlt)
  obtain ⟨kb2, ko2, rfl⟩ := h2.addr (i := k) (by simpa using hlt2)
  refine T.skip (T.s (T.block (T.s ?_)))
  refine T.draws _ [(0, 0), (1, 0), (2, 0), (3, 0), (4, 0), (5, 0), (6, 0), (7, 0), (8, 0)] mixed (by kernel_rfl) (Sub.of (List.Sublist.refl _)) (fun _ _ _ h => h) ?_
  refine DO.q rfl (q_move rfl) (DO.q rfl (q_move rfl) (DO.q rfl (q_idx underlying23 inf4 rfl rfl hlt) (DO.q rfl (q_load_sl underlying4 rfl rfl h1 (bools_get hlt)) (DO.q rfl (q_move rfl) (DO.q rfl (q_move rfl) (DO.q rfl (q_idx underlying23 inf4 rfl rfl hlt2) (DO.q rfl (q_load_sl underlying4 rfl rfl h2 (bools_get hlt2)) (DO.q rfl (q_bneq underlying4 rfl rfl) ?_))))))))
  refine DO.done ?_
  refine T.condP (p := ¬ xs[k] = ys[k]) (congrArg Value.bool (by cases xs[k] <;> cases ys[k] <;> rfl)) (fun hc => ?_) (fun hc => ?_)
  ·refine T.s ?_
   refine T.rg (TO.qa rfl (TO.nl (T.ret ?_)))
   refine Res.one (.bool false) Tryz.results50 rfl ?_
   exact ⟨congrArg Value.bool (decide_eq_false (fun e => hc (by subst e; rfl))).symm, rfl⟩
  refine T.skip (T.rg (TO.qm rfl (TO.q (q_inc rfl rfl (by omega)) (TO.qa rfl (TO.nl ?_)))))
  refine ⟨k + 1, by omega, rfl, by omega, ?_, ⟨rfl, rfl, rfl, trivial⟩⟩
  rw [List.take_succ_eq_append_getElem hlt, List.take_succ_eq_append_getElem hlt2, he]
  exact congrArg _ (congrArg (fun z => [z]) (Classical.not_not.1 hc))
 have hge14 : ¬ k < xs.length := by omega
 refine T.exit ?_
 refine T.s (T.rg (TO.qa rfl (TO.nl (T.ret ?_))))
 refine Res.one (.bool true) Tryz.results50 rfl ?_
 exact ⟨congrArg Value.bool (decide_eq_true (show xs = ys by rw [List.take_of_length_le (by omega), List.take_of_length_le (by omega)] at he; exact he)).symm, rfl⟩
theorem equalBytes (w : World) (b1 b2 : Option Addr) (c1 c2 : Nat) (xs ys : List Nat) (h1 : Sl w b1 (byts xs)) (h2 : Sl w b2 (byts ys)) (hb : xs.length < 9223372036854775807) :
  PureT Tryz.prog 15 [(.slice b1 xs.length c1), (.slice b2 ys.length c2)] w fun v N => v = .bool (decide (xs = ys)) ∧ N = [] := by
 refine CallT.enter func15 rfl ntmps15 rfl ?_
 refine T.s (T.rg (TO.qa rfl (TO.nl (T.s (T.s (T.rg (TO.qm rfl (TO.q (q_len underlying34 rfl) (TO.qm rfl (TO.q (q_len underlying34 rfl) (TO.q (q_neq rfl rfl) (TO.nl (T.condP rfl (fun hc => ?_) (fun hc => ?_))))))))))))))
 ·have hlt10 : xs.length ≠ ys.length := by omega
  have hlen : xs.length ≠ ys.length := by omega
  refine T.s (T.rg (TO.qa rfl (TO.nl (T.ret ?_))))
  refine Res.one (.bool false) Tryz.results15 rfl ?_
  exact ⟨congrArg Value.bool (decide_eq_false (fun e => hlen (by rw [e]))).symm, rfl⟩
 have hge10 : ¬ xs.length ≠ ys.length := by omega
 have hlen : xs.length = ys.length := by omega
 refine T.skip (T.s (T.s (T.rg (TO.qa rfl (TO.nl (T.block ?_))))))
 refine T.loop (fun (k : Nat) ρ O => O = [] ∧ k ≤ xs.length ∧ xs.take k = ys.take k ∧ Heads [(0, (.slice b1 xs.length c1)), (1, (.slice b2 ys.length c2)), (5, vI (k : Int))] ρ) (fun k => xs.length - k) 0 ?_ ?_
 ·exact ⟨rfl, Nat.zero_le _, rfl, ⟨rfl, rfl, rfl, trivial⟩⟩
 rintro k ρ O ⟨rfl, hk, he, hH⟩
 obtain ⟨ρ0, rfl⟩ := hH.elim
 clear hH
 refine T.s (T.s (T.rg (TO.qm rfl (TO.qm rfl (TO.q (q_len underlying34 rfl) (TO.q (q_lss rfl rfl) (TO.nl (T.condP rfl (fun hc => ?_) (fun hc => ?_)))))))))
 ·have hlt14 : k < xs.length := by omega
  have hlt : k < xs.length := by omega
  have hlt2 : k < ys.length := by omega
  obtain ⟨kb1, ko1, rfl⟩ := h1.addr (i := k) (by simpa using hlt)
  obtain ⟨kb2, ko2, rfl⟩ := h2.addr (i := k) (by simpa using hlt2)
  refine T.skip (T.s (T.block (T.s ?_)))
  refine T.draws _ [(0, 0), (1, 0), (2, 0), (3, 0), (4, 0), (5, 0), (6, 0), (7, 0), (8, 0)] mixed (by kernel_rfl) (Sub.of (List.Sublist.refl _)) (fun _ _ _ h => h) ?_
  refine DO.q rfl (q_move rfl) (DO.q rfl (q_move rfl) (DO.q rfl (q_idx underlying34 inf5 rfl rfl hlt) (DO.q rfl (q_load_sl underlying5 rfl rfl h1 (byts_get hlt)) (DO.q rfl (q_move rfl) (DO.q rfl (q_move rfl) (DO.q rfl (q_idx underlying34 inf5 rfl rfl hlt2) (DO.q rfl (q_load_sl underlying5 rfl rfl h2 (byts_get hlt2)) (DO.q rfl (q_neq rfl rfl) ?_))))))))
  refine DO.done ?_
  refine T.condP (p := ¬ xs[k] = ys[k]) (congrArg Value.bool (decide_eq_decide.2 (by omega))) (fun hc => ?_) (fun hc => ?_)
  ·have hlt25 : xs[k] ≠ ys[k] := by omega
   refine T.s (T.rg (TO.qa rfl (TO.nl (T.ret ?_))))
   refine Res.one (.bool false) Tryz.results15 rfl ?_
   exact ⟨congrArg Value.bool (decide_eq_false (fun e => hc (by subst e; rfl))).symm, rfl⟩
  have hge25 : ¬ xs[k] ≠ ys[k] := by omega
  refine T.skip (T.rg (TO.qm rfl (TO.q (q_inc rfl rfl (by omega)) (TO.qa rfl (TO.nl ?_)))))
  refine ⟨k + 1, by omega, rfl, by omega, ?_, ⟨rfl, rfl, rfl, trivial⟩⟩
  rw [List.take_succ_eq_append_getElem hlt, List.take_succ_eq_append_getElem hlt2, he]
  exact congrArg _ (congrArg (fun z => [z]) (Classical.not_not.1 hc))
 have hge14 : ¬ k < xs.length := by omega
 refine T.exit ?_
 refine T.s (T.rg (TO.qa rfl (TO.nl (T.ret ?_))))
 refine Res.one (.bool true) Tryz.results15 rfl ?_
 exact ⟨congrArg Value.bool (decide_eq_true (show xs = ys by rw [List.take_of_length_le (by omega), List.take_of_length_le (by omega)] at he; exact he)).symm, rfl⟩
theorem copyInts (w : World) (b1 : Option Addr) (c1 : Nat) (xs : List Int) (h1 : Sl w b1 (ints xs)) (hb : xs.length * 8 ≤ 70368744177664) :
  PureT Tryz.prog 86 [.slice b1 xs.length c1] w fun v N => ∃ b c, v = .slice b xs.length c ∧ N = [rowI b c 3 1 (ints xs)] := by
 refine CallT.enter func86 rfl ntmps86 rfl ?_
 refine T.s (T.rg (TO.qa rfl (TO.nl (T.s (T.rg (TO.qm rfl (TO.l rfl (l_appendN (l := xs.length) underlying48 underlying48 inf3 rfl rfl rfl (by decide) (Src.sl h1 (by simp)) (ints_one xs) (by omega) (by decide) (by decide) (fun b1 c2 => ?_)))))))))
 refine TO.qa rfl (TO.nl (T.ret ?_))
 refine Res.one (.slice b1 xs.length c2) Tryz.results86 rfl ?_
 exact ⟨_, _, rfl, rfl⟩
theorem copyBools (w : World) (b1 : Option Addr) (c1 : Nat) (xs : List Bool) (h1 : Sl w b1 (bools xs)) (hb : xs.length * 1 ≤ 70368744177664) :
  PureT Tryz.prog 60 [.slice b1 xs.length c1] w fun v N => ∃ b c, v = .slice b xs.length c ∧ N = [rowI b c 4 1 (bools xs)] := by
 refine CallT.enter func60 rfl ntmps60 rfl ?_
 refine T.s (T.rg (TO.qa rfl (TO.nl (T.s (T.rg (TO.qm rfl (TO.l rfl (l_appendN (l := xs.length) underlying23 underlying23 inf4 rfl rfl rfl (by decide) (Src.sl h1 (by simp)) (bools_one xs) (by omega) (by decide) (by decide) (fun b1 c2 => ?_)))))))))
 refine TO.qa rfl (TO.nl (T.ret ?_))
 refine Res.one (.slice b1 xs.length c2) Tryz.results60 rfl ?_
 exact ⟨_, _, rfl, rfl⟩
theorem equalRows (w : World) (b1 b2 : Option Addr) (c1 c2 : Nat) (vs us : List Value) (rs ss : List (List Int)) (h1 : Sl w b1 vs) (hr1 : RowsR w vs rs) (h2 : Sl w b2 us) (hr2 : RowsR w us ss) (hb : rs.length < 9223372036854775807) (hbr : ∀ r ∈ rs, r.length < 9223372036854775807) :
  PureT Tryz.prog 49 [.slice b1 rs.length c1, .slice b2 ss.length c2] w fun v N => v = .bool (decide (rs = ss)) ∧ N = [] := by
 refine CallT.enter func49 rfl ntmps49 rfl ?_
 refine T.s (T.rg (TO.qa rfl (TO.nl (T.s (T.s (T.rg (TO.qm rfl (TO.q (q_len underlying22 rfl) (TO.qm rfl (TO.q (q_len underlying22 rfl) (TO.q (q_neq rfl rfl) (TO.nl (T.condP rfl (fun hc => ?_) (fun hc => ?_))))))))))))))
 ·have hlt10 : rs.length ≠ ss.length := by omega
  have hlen : rs.length ≠ ss.length := by omega
  refine T.s (T.rg (TO.qa rfl (TO.nl (T.ret ?_))))
  refine Res.one (.bool false) Tryz.results49 rfl ?_
  exact ⟨congrArg Value.bool (decide_eq_false (fun e => hlen (by rw [e]))).symm, rfl⟩
 have hge10 : ¬ rs.length ≠ ss.length := by omega
 have hlen : rs.length = ss.length := by omega
 refine T.skip (T.s (T.s (T.rg (TO.qa rfl (TO.nl (T.block ?_))))))
 refine T.loop (fun (k : Nat) ρ O => O = [] ∧ k ≤ rs.length ∧ rs.take k = ss.take k ∧ Heads [(0, (.slice b1 rs.length c1)), (1, (.slice b2 ss.length c2)), (5, vI (k : Int))] ρ) (fun k => rs.length - k) 0 ?_ ?_
 ·exact ⟨rfl, Nat.zero_le _, rfl, ⟨rfl, rfl, rfl, trivial⟩⟩
 rintro k ρ O ⟨rfl, hk, he, hH⟩
 obtain ⟨ρ0, rfl⟩ := hH.elim
 clear hH
 refine T.s (T.s (T.rg (TO.qm rfl (TO.qm rfl (TO.q (q_len underlying22 rfl) (TO.q (q_lss rfl rfl) (TO.nl (T.condP rfl (fun hc => ?_) (fun hc => ?_)))))))))
 ·have hlt14 : k < rs.length := by omega
  have hlt : k < rs.length := by omega
  have hlt2 : k < ss.length := by omega
  obtain ⟨vb1, vc1, g1, s1⟩ := hr1.get hlt
  obtain ⟨vb2, vc2, g2, s2⟩ := hr2.get hlt2
  obtain ⟨kb1, ko1, rfl⟩ := h1.addr (i := k) (by rw [hr1.1]; exact hlt)
  obtain ⟨kb2, ko2, rfl⟩ := h2.addr (i := k) (by rw [hr2.1]; exact hlt2)
  refine T.skip (T.s (T.block (T.s ?_)))
  refine T.draws _ [(0, 0), (1, 0), (2, 0), (3, 0), (4, 0), (5, 0), (6, 0), (7, 0), (8, 2), (9, 2)] mixed (by kernel_rfl) (Sub.of (List.Sublist.refl _)) (fun _ _ _ h => h) ?_
  refine DO.q rfl (q_move rfl) (DO.q rfl (q_move rfl) (DO.q rfl (q_idx underlying22 inf48 rfl rfl hlt) (DO.q rfl (q_load_sl underlying48 rfl rfl h1 g1) (DO.q rfl (q_move rfl) (DO.q rfl (q_move rfl) (DO.q rfl (q_idx underlying22 inf48 rfl rfl hlt2) (DO.q rfl (q_load_sl underlying48 rfl rfl h2 g2) ?_)))))))
  have hk25 := fun (w1 : World) (hI : Inv w [] w1) => equalInts w1 vb1 vb2 vc1 vc2 rs[k] ss[k] (hI.sl s1) (hI.sl s2) (hbr _ (List.getElem_mem hlt))
  refine DO.last rfl rfl (l_call ent78 (CallT.op hk25) rfl ?_)
  clear hk25
  rintro v O' ⟨N, rfl, rfl, rfl⟩
  refine DO.last rfl rfl (LT.oq rfl rfl (q_not rfl) ?_)
  refine DO.done ?_
  refine T.condP (p := ¬ rs[k] = ss[k]) (congrArg Value.bool (by simp)) (fun hc => ?_) (fun hc => ?_)
  ·refine T.s ?_
   refine T.rg (TO.qa rfl (TO.nl (T.ret ?_)))
   refine Res.one (.bool false) Tryz.results49 rfl ?_
   exact ⟨congrArg Value.bool (decide_eq_false (fun e => hc (by subst e; rfl))).symm, rfl⟩
  refine T.skip (T.rg (TO.qm rfl (TO.q (q_inc rfl rfl (by omega)) (TO.qa rfl (TO.nl ?_)))))
  refine ⟨k + 1, by omega, rfl, by omega, ?_, ⟨rfl, rfl, rfl, trivial⟩⟩
  rw [List.take_succ_eq_append_getElem hlt, List.take_succ_eq_append_getElem hlt2, he]
  exact congrArg _ (congrArg (fun z => [z]) (Classical.not_not.1 hc))
 have hge14 : ¬ k < rs.length := by omega
 refine T.exit ?_
 refine T.s (T.rg (TO.qa rfl (TO.nl (T.ret ?_))))
 refine Res.one (.bool true) Tryz.results49 rfl ?_
 exact ⟨congrArg Value.bool (decide_eq_true (show rs = ss by rw [List.take_of_length_le (by omega), List.take_of_length_le (by omega)] at he; exact he)).symm, rfl⟩
theorem equalDFA (w : World) (d e : DFA) (nb1 nb2 fb1 fb2 : Option Addr) (nc1 nc2 fc1 fc2 : Nat) (vs us : List Value) (h1 : DfaAt w d nb1 vs fb1) (h2 : DfaAt w e nb2 us fb2) (hb : d.next.length < 9223372036854775807) (hbr : ∀ r ∈ d.next, r.length < 9223372036854775807) (hbf : d.final.length < 9223372036854775807) :
  PureT Tryz.prog 16 [.agg (dfaCells d nb1 nc1 fb1 fc1).toArray, .agg (dfaCells e nb2 nc2 fb2 fc2).toArray] w fun v N => v = .bool (decide (d = e)) ∧ True := by
 refine CallT.enter func16 rfl ntmps16 rfl ?_
 refine T.s (T.rg (TO.l rfl (l_box (v := (.agg #[(vI d.vars), (vI d.start), (.slice nb1 d.next.length nc1), (.slice fb1 d.final.length fc1)])) (cs := [(vI d.vars), (vI d.start), (.slice nb1 d.next.length nc1), (.slice fb1 d.final.length fc1)]) rfl rfl (fun b1 => ?_))))
 refine TO.l rfl (l_box (v := (.agg #[(vI e.vars), (vI e.start), (.slice nb2 e.next.length nc2), (.slice fb2 e.final.length fc2)])) (cs := [(vI e.vars), (vI e.start), (.slice nb2 e.next.length nc2), (.slice fb2 e.final.length fc2)]) rfl rfl (fun b2 => ?_))
 refine TO.qa rfl (TO.nl (T.s (T.rg (TO.q (q_fa underlying25 rfl inf3 rfl rfl) (TO.q (q_lb 1 underlying3 rfl rfl rfl rfl) (TO.q (q_fa underlying25 rfl inf3 rfl rfl) (TO.q (q_lb 0 underlying3 rfl rfl rfl rfl) ?_)))))))
 by_cases e1 : d.vars = e.vars
 ·refine TO.q (QT.toB (q_eql rfl rfl) (decide_eq_true e1)) ?_
  refine TO.qm rfl (TO.gq rfl rfl (q_fa underlying25 rfl inf3 rfl rfl) (TO.gq rfl rfl (q_lb 1 underlying3 rfl rfl rfl rfl) (TO.gq rfl rfl (q_fa underlying25 rfl inf3 rfl rfl) (TO.gq rfl rfl (q_lb 0 underlying3 rfl rfl rfl rfl) ?_))))
  by_cases e2 : d.start = e.start
  ·refine TO.gq rfl rfl (QT.toB (q_eql rfl rfl) (decide_eq_true e2)) ?_
   refine TO.q (q_pick1 rfl rfl) (TO.qm rfl (TO.gq rfl rfl (q_fa underlying25 rfl inf22 rfl rfl) (TO.gq rfl rfl (q_lb 1 underlying22 rfl rfl rfl rfl) (TO.gq rfl rfl (q_fa underlying25 rfl inf22 rfl rfl) (TO.gq rfl rfl (q_lb 0 underlying22 rfl rfl rfl rfl) ?_)))))
   by_cases e3 : d.next = e.next
   ·have hk22 := fun (w1 : World) (hI : Inv w [oI b2 25 [(vI e.vars), (vI e.start), (.slice nb2 e.next.length nc2), (.slice fb2 e.final.length fc2)], oI b1 25 [(vI d.vars), (vI d.start), (.slice nb1 d.next.length nc1), (.slice fb1 d.final.length fc1)]] w1) => equalRows w1 nb1 nb2 nc1 nc2 vs us d.next e.next (hI.sl h1.outer) (hI.rows h1.rows) (hI.sl h2.outer) (hI.rows h2.rows) hb hbr
    refine TO.gd rfl rfl rfl (l_call ent49 (CallT.op hk22) rfl ?_)
    clear hk22
    rintro v O' ⟨N, rfl, rfl, rfl⟩
    rw [decide_eq_true e3]
    refine TO.q (q_pick1 rfl rfl) (TO.qm rfl (TO.gq rfl rfl (q_fa underlying25 rfl inf23 rfl rfl) (TO.gq rfl rfl (q_lb 1 underlying23 rfl rfl rfl rfl) (TO.gq rfl rfl (q_fa underlying25 rfl inf23 rfl rfl) (TO.gq rfl rfl (q_lb 0 underlying23 rfl rfl rfl rfl) ?_)))))
    by_cases e4 : d.final = e.final
    ·have hk29 := fun (w1 : World) (hI : Inv w [oI b2 25 [(vI e.vars), (vI e.start), (.slice nb2 e.next.length nc2), (.slice fb2 e.final.length fc2)], oI b1 25 [(vI d.vars), (vI d.start), (.slice nb1 d.next.length nc1), (.slice fb1 d.final.length fc1)]] w1) => equalBools w1 fb1 fb2 fc1 fc2 d.final e.final (hI.sl h1.final) (hI.sl h2.final) hbf
     refine TO.gd rfl rfl rfl (l_call ent50 (CallT.op hk29) rfl ?_)
     clear hk29
     rintro v O' ⟨N, rfl, rfl, rfl⟩
     rw [decide_eq_true e4]
     refine TO.q (q_pick1 rfl rfl) (TO.qa rfl (TO.nl (T.ret ?_)))
     refine Res.one (.bool true) Tryz.results16 rfl ?_
     refine ⟨congrArg Value.bool (decide_eq_true ?_).symm, trivial⟩
     cases d; cases e; simp only at e1 e2 e3 e4; rw [e1, e2, e3, e4]
    have hk29 := fun (w1 : World) (hI : Inv w [oI b2 25 [(vI e.vars), (vI e.start), (.slice nb2 e.next.length nc2), (.slice fb2 e.final.length fc2)], oI b1 25 [(vI d.vars), (vI d.start), (.slice nb1 d.next.length nc1), (.slice fb1 d.final.length fc1)]] w1) => equalBools w1 fb1 fb2 fc1 fc2 d.final e.final (hI.sl h1.final) (hI.sl h2.final) hbf
    refine TO.gd rfl rfl rfl (l_call ent50 (CallT.op hk29) rfl ?_)
    clear hk29
    rintro v O' ⟨N, rfl, rfl, rfl⟩
    rw [decide_eq_false e4]
    refine TO.q (q_pick1 rfl rfl) (TO.qa rfl (TO.nl (T.ret ?_)))
    refine Res.one (.bool false) Tryz.results16 rfl ?_
    exact ⟨congrArg Value.bool (decide_eq_false (fun q => e4 (congrArg DFA.final q))).symm, trivial⟩
   have hk22 := fun (w1 : World) (hI : Inv w [oI b2 25 [(vI e.vars), (vI e.start), (.slice nb2 e.next.length nc2), (.slice fb2 e.final.length fc2)], oI b1 25 [(vI d.vars), (vI d.start), (.slice nb1 d.next.length nc1), (.slice fb1 d.final.length fc1)]] w1) => equalRows w1 nb1 nb2 nc1 nc2 vs us d.next e.next (hI.sl h1.outer) (hI.rows h1.rows) (hI.sl h2.outer) (hI.rows h2.rows) hb hbr
   refine TO.gd rfl rfl rfl (l_call ent49 (CallT.op hk22) rfl ?_)
   clear hk22
   rintro v O' ⟨N, rfl, rfl, rfl⟩
   rw [decide_eq_false e3]
   refine TO.q (q_pick1 rfl rfl) (TO.qm rfl (TO.pd rfl rfl (TO.pd rfl rfl (TO.pd rfl rfl (TO.pd rfl rfl (TO.pd rfl rfl (TO.q (q_pick0 rfl rfl) (TO.qa rfl (TO.nl (T.ret ?_))))))))))
   refine Res.one (.bool false) Tryz.results16 rfl ?_
   exact ⟨congrArg Value.bool (decide_eq_false (fun q => e3 (congrArg DFA.next q))).symm, trivial⟩
  refine TO.gq rfl rfl (QT.toB (q_eql rfl rfl) (decide_eq_false e2)) (TO.q (q_pick1 rfl rfl) (TO.qm rfl (TO.pd rfl rfl (TO.pd rfl rfl (TO.pd rfl rfl (TO.pd rfl rfl (TO.pd rfl rfl (TO.q (q_pick0 rfl rfl) (TO.qm rfl ?_)))))))))
  refine TO.pd rfl rfl (TO.pd rfl rfl (TO.pd rfl rfl (TO.pd rfl rfl (TO.pd rfl rfl (TO.q (q_pick0 rfl rfl) (TO.qa rfl (TO.nl (T.ret ?_))))))))
  refine Res.one (.bool false) Tryz.results16 rfl ?_
  exact ⟨congrArg Value.bool (decide_eq_false (fun q => e2 (congrArg DFA.start q))).symm, trivial⟩
 refine TO.q (QT.toB (q_eql rfl rfl) (decide_eq_false e1)) (TO.qm rfl (TO.pd rfl rfl (TO.pd rfl rfl (TO.pd rfl rfl (TO.pd rfl rfl (TO.pd rfl rfl (TO.q (q_pick0 rfl rfl) (TO.qm rfl (TO.pd rfl rfl ?_)))))))))
 refine TO.pd rfl rfl (TO.pd rfl rfl (TO.pd rfl rfl (TO.pd rfl rfl (TO.q (q_pick0 rfl rfl) (TO.qm rfl (TO.pd rfl rfl (TO.pd rfl rfl (TO.pd rfl rfl ?_))))))))
 refine TO.pd rfl rfl (TO.pd rfl rfl (TO.q (q_pick0 rfl rfl) (TO.qa rfl (TO.nl (T.ret ?_)))))
 refine Res.one (.bool false) Tryz.results16 rfl ?_
 exact ⟨congrArg Value.bool (decide_eq_false (fun q => e1 (congrArg DFA.vars q))).symm, trivial⟩
theorem copyRows (w : World) (b1 : Option Addr) (c1 : Nat) (vs : List Value) (rs : List (List Int)) (h1 : Sl w b1 vs) (hr1 : RowsR w vs rs) (hb : rs.length * 24 ≤ 70368744177664) (hbr : ∀ r ∈ rs, r.length * 8 ≤ 70368744177664) :
  PureT Tryz.prog 59 [.slice b1 rs.length c1] w fun v N => ∃ b c qs, v = .slice b rs.length c ∧ N = rowI b c 48 1 (vals qs) :: itms 3 qs ∧ nums qs = rs := by
 refine CallT.enter func59 rfl ntmps59 rfl ?_
 refine T.s (T.rg (TO.qa rfl (TO.nl (T.s (T.rg (TO.qa rfl (TO.nl (T.s (T.s (T.rg (TO.qa rfl (TO.nl (T.block (T.nilRow 48 1 ?_))))))))))))))
 refine T.loop (fun (k : Nat) ρ O => ∃ (qs : List Rec) (ob : Option Addr) (oc : Nat), O = ([rowI ob oc 48 1 (vals qs)] ++ (itms 3 qs)) ∧ k ≤ rs.length ∧ qs.length = k ∧ nums qs = rs.take k ∧ Heads [(0, (.slice b1 rs.length c1)), (2, nS), (3, (.slice ob k oc)), (4, vI (k : Int))] ρ) (fun k => rs.length - k) 0 ?_ ?_
 ·exact ⟨[], none, 0, rfl, Nat.zero_le _, rfl, rfl, ⟨rfl, rfl, rfl, rfl, trivial⟩⟩
 rintro k ρ O ⟨qs, ob, oc, rfl, hk, hql, hqs, hH⟩
 obtain ⟨ρ0, rfl⟩ := hH.elim
 clear hH
 refine T.s (T.s (T.rg (TO.qm rfl (TO.qm rfl (TO.q (q_len underlying22 rfl) (TO.q (q_lss rfl rfl) (TO.nl (T.condP rfl (fun hc => ?_) (fun hc => ?_)))))))))
 ·have hlt8 : k < rs.length := by omega
  have hlt : k < rs.length := by omega
  obtain ⟨vb1, vc1, g1, s1⟩ := hr1.get hlt
  obtain ⟨kb1, ko1, rfl⟩ := h1.addr (i := k) (by rw [hr1.1]; exact hlt)
  have hbk := hbr _ (List.getElem_mem hlt)
  refine T.skip (T.s (T.block (T.rg (TO.qm rfl (TO.qm rfl (TO.qm rfl (TO.q (q_idx underlying22 inf48 rfl rfl hlt) (TO.q (q_load_sl underlying48 rfl rfl h1 g1) ?_))))))))
  have hk16 := fun (w1 : World) (hI : Inv w ([rowI ob oc 48 1 (vals qs)] ++ (itms 3 qs)) w1) => copyInts w1 vb1 vc1 rs[k] (hI.sl s1) hbk
  refine TO.l rfl (l_call ent86 (CallT.op hk16) rfl ?_)
  clear hk16
  rintro v O' ⟨N, rfl, cb, cc, rfl, rfl⟩
  refine TO.l rfl (l_build1 (v := (.slice cb rs[k].length cc)) underlying22 inf48 rfl rfl rfl (fun b1 => ?_))
  refine TO.l rfl (l_append 2 underlying22 underlying22 inf48 rfl rfl rfl rfl (by simp [hql]) (by decide) (Src.row (j := 0) rfl (by simp)) (by simp [oneB]) (by omega) (by decide) (by decide) (fun b2 c3 => ?_))
  refine TO.qa rfl (TO.nl ?_)
  refine T.sub (O' := rowI b2 c3 48 1 (vals (qs ++ [⟨cb, cc, rs[k]⟩])) :: itms 3 (qs ++ [⟨cb, cc, rs[k]⟩])) (by rw [show vals qs ++ [Value.slice cb rs[k].length cc] = vals (qs ++ [⟨cb, cc, rs[k]⟩]) by simp [Rec.val]]; simp only [itms, List.map_append]; exact sub_push') ?_
  refine T.rg (TO.qm rfl (TO.q (q_inc rfl rfl (by omega)) (TO.qa rfl (TO.nl ?_))))
  refine ⟨k + 1, by omega, qs ++ [⟨cb, cc, rs[k]⟩], _, _, rfl, by omega, by simp [hql], ?_, ⟨rfl, rfl, rfl, rfl, trivial⟩⟩
  rw [List.take_succ_eq_append_getElem hlt, ← hqs]; simp [nums]
 have hge8 : ¬ k < rs.length := by omega
 refine T.exit ?_
 refine T.s (T.rg (TO.qm rfl (TO.qa rfl (TO.nl (T.ret ?_)))))
 refine Res.one (.slice ob k oc) Tryz.results59 rfl ?_
 have hke : k = rs.length := by omega
 subst hke
 exact ⟨ob, oc, qs, rfl, rfl, by rw [hqs, List.take_of_length_le (Nat.le_refl _)]⟩
theorem copyDFA (w : World) (d : DFA) (nb fb : Option Addr) (nc fc : Nat) (vs : List Value) (h : DfaAt w d nb vs fb) (hb : d.next.length * 24 ≤ 70368744177664) (hbr : ∀ r ∈ d.next, r.length * 8 ≤ 70368744177664) (hbf : d.final.length * 1 ≤ 70368744177664) :
  PureT Tryz.prog 32 [.agg (dfaCells d nb nc fb fc).toArray] w fun v N => ∃ nb' nc' fb' fc' qs, v = .agg (dfaCells d nb' nc' fb' fc').toArray ∧ N = [rowI nb' nc' 48 1 (vals qs), rowI fb' fc' 4 1 (bools d.final)] ++ itms 3 qs ∧ nums qs = d.next := by
 refine CallT.enter func32 rfl ntmps32 rfl ?_
 refine T.s (T.rg (TO.l rfl (l_box (v := (.agg #[(vI d.vars), (vI d.start), (.slice nb d.next.length nc), (.slice fb d.final.length fc)])) (cs := [(vI d.vars), (vI d.start), (.slice nb d.next.length nc), (.slice fb d.final.length fc)]) rfl rfl (fun b1 => ?_))))
 refine TO.l rfl (l_alloc inf25 rfl (fun b2 => ?_))
 refine TO.nl (T.s ?_)
 refine T.draws _ [(0, 0), (1, 0), (2, 0), (3, 0), (4, 0), (5, 0), (7, 0), (8, 0), (6, 1), (9, 1), (10, 0), (11, 2)] mixed (by kernel_rfl) (Sub.of (List.Sublist.refl _)) (fun _ _ _ h => h) ?_
 refine DO.q rfl (q_fa underlying25 rfl inf3 rfl rfl) (DO.q rfl (q_lb 1 underlying3 rfl rfl rfl rfl) (DO.q rfl (q_fa underlying25 rfl inf3 rfl rfl) (DO.q rfl (q_lb 1 underlying3 rfl rfl rfl rfl) (DO.q rfl (q_fa underlying25 rfl inf22 rfl rfl) (DO.q rfl (q_lb 1 underlying22 rfl rfl rfl rfl) (DO.q rfl (q_fa underlying25 rfl inf23 rfl rfl) (DO.q rfl (q_lb 1 underlying23 rfl rfl rfl rfl) ?_)))))))
 have hk9 := fun (w1 : World) (hI : Inv w [oI b2 25 [(vI 0), (vI 0), nS, nS], oI b1 25 [(vI d.vars), (vI d.start), (.slice nb d.next.length nc), (.slice fb d.final.length fc)]] w1) => copyRows w1 nb nc vs d.next (hI.sl h.outer) (hI.rows h.rows) hb hbr
 refine DO.loud rfl rfl (l_call ent59 (CallT.op hk9) rfl ?_)
 clear hk9
 rintro v O' ⟨N, rfl, nb2, nc2, qs, rfl, rfl, hqs⟩
 refine ⟨Sub.appL _ (Sub.pick [0, 0] rfl), ?_⟩
 refine DO.sub (O' := ([rowI nb2 nc2 48 1 (vals qs), oI b2 25 [(vI 0), (vI 0), nS, nS], oI b1 25 [(vI d.vars), (vI d.start), (.slice nb d.next.length nc), (.slice fb d.final.length fc)]] ++ (itms 3 qs))) (Sub.ca []) ?_
 have hk12 := fun (w1 : World) (hI : Inv w ([rowI nb2 nc2 48 1 (vals qs), oI b2 25 [(vI 0), (vI 0), nS, nS], oI b1 25 [(vI d.vars), (vI d.start), (.slice nb d.next.length nc), (.slice fb d.final.length fc)]] ++ (itms 3 qs)) w1) => copyBools w1 fb fc d.final (hI.sl h.final) hbf
 refine DO.loud rfl rfl (l_call ent60 (CallT.op hk12) rfl ?_)
 clear hk12
 rintro v O' ⟨N, rfl, fb2, fc2, rfl, rfl⟩
 refine ⟨Sub.pick0 [2, 2] [rowI fb2 fc2 4 1 (bools d.final), rowI nb2 nc2 48 1 (vals qs), oI b2 25 [(vI 0), (vI 0), nS, nS], oI b1 25 [(vI d.vars), (vI d.start), (.slice nb d.next.length nc), (.slice fb d.final.length fc)]] (itms 3 qs) rfl rfl, ?_⟩
 refine DO.q rfl (q_build (cs := [(vI d.vars), (vI d.start), (.slice nb2 d.next.length nc2), (.slice fb2 d.final.length fc2)]) plan25 inf25 (by kernel_rfl)) ?_
 refine DO.last rfl rfl (l_sb (v := (.agg #[(vI d.vars), (vI d.start), (.slice nb2 d.next.length nc2), (.slice fb2 d.final.length fc2)])) (vs := [(vI d.vars), (vI d.start), (.slice nb2 d.next.length nc2), (.slice fb2 d.final.length fc2)]) 2 inf25 rfl rfl rfl rfl rfl rfl (by simp [putL]) ?_)
 refine DO.done ?_
 refine T.ret (Res.drop ?_)
 refine Res.cell1 (i := 2) Tryz.results32 underlying25 rfl inf25 rfl rfl rfl ?_
 exact ⟨[rowI nb2 nc2 48 1 (vals qs), rowI fb2 fc2 4 1 (bools d.final)] ++ itms 3 qs, Sub.ca [oI b2 25 [(vI d.vars), (vI d.start), (.slice nb2 d.next.length nc2), (.slice fb2 d.final.length fc2)], oI b1 25 [(vI d.vars), (vI d.start), (.slice nb d.next.length nc), (.slice fb d.final.length fc)]], nb2, nc2, fb2, fc2, qs, rfl, rfl, hqs⟩
end Go.Proofs.YtnpehjpookcfkaaGreatDoor


namespace Go.Lx
open Go.RowKit
theorem T.reset {P : Program} {r : Option Nat} {base : World} {n : Nat} {c : Code} {Q : Post} {ρ : Env} {O : List Item} (O' : List Item) (L : List (Nat × Value)) (e : O = O') (h : Heads L ρ) (k : ∀ ρ0, T P r base n c Q (heads L ρ0) O') : T P r base n c Q ρ O := by
 obtain ⟨ρ0, rfl⟩ := h.elim
 subst e
 exact k ρ0
theorem Rnd.reset {P : Program} {r : Option Nat} {base : World} {n m : Nat} {c : Code} {Q : Post} {ρ : Env} {O : List Item} (O' : List Item) (L : List (Nat × Value)) (e : O = O') (h : Heads L ρ) (k : ∀ ρ0, Rnd P r base n c Q m (heads L ρ0) O') : Rnd P r base n c Q m ρ O := by
 obtain ⟨ρ0, rfl⟩ := h.elim
 subst e
 exact k ρ0
section
variable {P : Program} {base : World} {ρ : Env} {O : List Item} {dst : Option Nat} {t : TypeId} {p : String} {af : Array Edge} {g : Option (Nat × Bool)}
theorem q_ixArrEl {x y : Operand} {T E : TypeId} {b : Option Addr} {o n i : Nat} {k : IntKind} {z : Value} {s by_ : Nat} {cs : List Value} (hu : P.underlying T = some (.array n E)) (hi : Inf P E z s by_) (hx : ev ρ x = elP b o) (hy : ev ρ y = .int k (i : Int)) (hlt : i < n) (hsl : ∀ w, Inv base O w → Sl w b cs) (ho : o < cs.length) :
  QT P base ⟨dst, .indexAddr T x y, t, p, af, g⟩ ρ O (elP b (o + i * s)) := fun w hI => by
 obtain ⟨bk, o', rfl⟩ := (hsl w hI).addr ho
 have := q_ixArr (P := P) (base := base) (O := O) (dst := dst) (t := t) (p := p) (af := af) (g := g) hu hi (b := bk) (o := o' + o) hx hy hlt w hI
 rw [this]; simp [elP, Nat.add_assoc]
end
theorem sublist_rest {l O : List Item} (h : l.Sublist O) : ∃ D, O.Perm (l ++ D) := by
 induction h with
 | slnil => exact ⟨[], List.Perm.refl _⟩
 | cons a _ ih =>
  obtain ⟨D, hD⟩ := ih
  exact ⟨a :: D, (List.Perm.cons a hD).trans List.perm_middle.symm⟩
 | cons_cons a _ ih =>
  obtain ⟨D, hD⟩ := ih
  exact ⟨D, List.Perm.cons a hD⟩
theorem Sub.rest {S O : List Item} (h : Sub S O) : ∃ D, O.Perm (S ++ D) := by
 obtain ⟨l, hp, hs⟩ := h
 obtain ⟨D, hD⟩ := sublist_rest hs
 exact ⟨D, hD.trans (hp.symm.append_right D)⟩
theorem CallT.makerOf {P : Program} {base : World} {f : FuncId} {args : List Value} {S O : List Item} {Wt : Type} {val : Wt → Value} {its : Wt → List Item} (h : CallT P base f args S (fun v O' => ∃ x, v = val x ∧ O' = its x ++ S)) (hS : Sub S O) : CallT P base f args O (fun v O' => ∃ x, v = val x ∧ O' = its x ++ O) := by
 obtain ⟨D, hp⟩ := hS.rest
 intro w M hI
 have e1 : (S ++ (D ++ M)).Perm (O ++ M) := by rw [← List.append_assoc]; exact hp.symm.append_right M
 refine (h w (D ++ M) (hI.subp ⟨O ++ M, e1, List.Sublist.refl _⟩)).mono ?_
 rintro e w' ⟨v, O', h1, h2, x, h3, rfl⟩
 refine ⟨v, its x ++ O, h1, h2.subp ⟨_, ?_, List.Sublist.refl _⟩, x, h3, rfl⟩
 rw [List.append_assoc, List.append_assoc]
 exact List.Perm.append_left _ e1.symm
end Go.Lx


namespace Go.Lx
def rowOk (n : Nat) (r : List Int) : Bool := r.all fun x => decide (0 ≤ x) && decide (x < (n : Int))
def rowsE (L n : Nat) : List (List Int) → Nat
 | [] => 0
 | r :: rs => if r.length ≠ L then 2 else if rowOk n r = true then rowsE L n rs else 8
def checkD (d : DFA) : Nat :=
 if ¬ (0 ≤ d.vars ∧ d.vars ≤ 6) then 7
 else if d.next.length = 0 then 3
 else if 4096 < d.next.length then 4
 else if d.final.length ≠ d.next.length then 2
 else if d.start < 0 ∨ (d.next.length : Int) ≤ d.start then 8
 else rowsE (2 ^ d.vars.toNat) d.next.length d.next
theorem rowsE_at {L n : Nat} {rs : List (List Int)} {k : Nat} (hk : k < rs.length) : rowsE L n (rs.drop k) = if rs[k].length ≠ L then 2 else if rowOk n rs[k] = true then rowsE L n (rs.drop (k + 1)) else 8 := by
 rw [List.drop_eq_getElem_cons hk]; rfl
theorem rowsE_end {L n : Nat} {rs : List (List Int)} {k : Nat} (hk : rs.length ≤ k) : rowsE L n (rs.drop k) = 0 := by
 rw [List.drop_eq_nil_of_le hk]; rfl
theorem rowOk_step {n : Nat} {r : List Int} {j : Nat} (hj : j < r.length) (h : rowOk n (r.take j) = true) (h0 : ¬ r[j] < 0) (h1 : ¬ (n : Int) ≤ r[j]) : rowOk n (r.take (j + 1)) = true := by
 rw [List.take_succ_eq_append_getElem hj]
 simp only [rowOk, List.all_append, Bool.and_eq_true] at h ⊢
 refine ⟨h, ?_⟩
 simp; omega
theorem rowOk_bad {n : Nat} {r : List Int} {j : Nat} (hj : j < r.length) (h : r[j] < 0 ∨ (n : Int) ≤ r[j]) : ¬ rowOk n r = true := by
 intro hh
 simp only [rowOk, List.all_eq_true, Bool.and_eq_true, decide_eq_true_eq] at hh
 have := hh _ (List.getElem_mem hj)
 omega
theorem rowOk_full {n : Nat} {r : List Int} {j : Nat} (hj : r.length ≤ j) (h : rowOk n (r.take j) = true) : rowOk n r = true := by
 rwa [List.take_of_length_le hj] at h
structure Val (d : DFA) : Prop where
 v0 : 0 ≤ d.vars
 v6 : d.vars ≤ 6
 n0 : 0 < d.next.length
 fin : d.final.length = d.next.length
 s0 : 0 ≤ d.start
 s1 : d.start < (d.next.length : Int)
 len : ∀ r ∈ d.next, r.length = 2 ^ d.vars.toNat
 ok : ∀ r ∈ d.next, ∀ x ∈ r, 0 ≤ x ∧ x < (d.next.length : Int)
structure Valid (d : DFA) : Prop extends Val d where
 n4 : d.next.length ≤ 4096
instance {d : DFA} : Coe (Valid d) (Val d) := ⟨Valid.toVal⟩
theorem rowsE_zero {L n : Nat} : ∀ {rs : List (List Int)}, rowsE L n rs = 0 ↔ (∀ r ∈ rs, r.length = L) ∧ ∀ r ∈ rs, ∀ x ∈ r, 0 ≤ x ∧ x < (n : Int)
 | [] => by simp [rowsE]
 | r :: rs => by
  have ih := rowsE_zero (L := L) (n := n) (rs := rs)
  simp only [rowsE]
  by_cases h : r.length = L
  ·by_cases h2 : rowOk n r = true
   ·simp only [h, ne_eq, not_true_eq_false, if_false, h2, if_true, ih, List.mem_cons, forall_eq_or_imp, true_and]
    have h3 : ∀ x ∈ r, 0 ≤ x ∧ x < (n : Int) := by simpa [rowOk] using h2
    exact ⟨fun q => ⟨q.1, h3, q.2⟩, fun q => ⟨q.1, q.2.2⟩⟩
   ·simp only [h, ne_eq, not_true_eq_false, if_false, h2]
    refine ⟨fun q => by simp at q, fun q => (h2 ?_).elim⟩
    have := q.2 r (by simp)
    simpa [rowOk] using this
  ·simp only [ne_eq, h, not_false_eq_true, if_true]
   exact ⟨fun q => by simp at q, fun q => (h (q.1 r (by simp))).elim⟩
theorem checkD_zero {d : DFA} : checkD d = 0 ↔ Valid d := by
 unfold checkD
 constructor
 ·intro h
  split at h; · cases h
  split at h; · cases h
  split at h; · cases h
  split at h; · cases h
  split at h; · cases h
  rename_i h1 h2 h3 h4 h5
  obtain ⟨h6, h7⟩ := rowsE_zero.1 h
  simp only [Classical.not_not] at h1 h4
  exact ⟨⟨h1.1, h1.2, by omega, h4, by omega, by omega, h6, h7⟩, by omega⟩
 ·intro h
  rw [if_neg (by have := h.v0; have := h.v6; simp; omega), if_neg (by have := h.n0; omega), if_neg (by have := h.n4; omega), if_neg (by simp [h.fin]), if_neg (by have := h.s0; have := h.s1; omega)]
  exact rowsE_zero.2 ⟨h.len, h.ok⟩
theorem Val.width {d : DFA} (h : Val d) : 2 ^ d.vars.toNat ≤ 64 :=
 Nat.le_trans (Nat.pow_le_pow_right (by omega) (show d.vars.toNat ≤ 6 by have := h.v0; have := h.v6; omega)) (by decide)
theorem Val.bound {d : DFA} (h : Val d) : ∀ r ∈ d.next, r.length < 9223372036854775807 := fun r hr => by
 have := h.len r hr; have := h.width; omega
end Go.Lx


namespace Go.Lx
section
variable {α : Type} [DecidableEq α]
def ix (x : α) : List α → Nat
 | [] => 0
 | k :: ks => if x = k then 0 else ix x ks + 1
theorem ix_lt {x : α} : ∀ {ks : List α}, x ∈ ks → ix x ks < ks.length
 | k :: ks, h => by
  simp only [ix]
  split
  ·simp
  ·rename_i e
   have := ix_lt ((List.mem_cons.1 h).resolve_left e)
   simp; omega
theorem ix_get {x : α} : ∀ {ks : List α}, x ∈ ks → ks[ix x ks]? = some x
 | k :: ks, h => by
  simp only [ix]
  split
  ·rename_i e; simp [e]
  ·rename_i e
   simpa using ix_get ((List.mem_cons.1 h).resolve_left e)
theorem ix_inj {x y : α} {ks : List α} (hx : x ∈ ks) (hy : y ∈ ks) (h : ix x ks = ix y ks) : x = y := by
 have h1 := ix_get hx
 rw [h, ix_get hy] at h1
 exact (Option.some.inj h1).symm
theorem ix_append_left {x : α} {ms : List α} : ∀ {ks : List α}, x ∈ ks → ix x (ks ++ ms) = ix x ks
 | k :: ks, h => by
  simp only [List.cons_append, ix]
  split
  ·rfl
  ·rename_i e; rw [ix_append_left ((List.mem_cons.1 h).resolve_left e)]
theorem ix_append_right {x : α} {ms : List α} : ∀ {ks : List α}, x ∉ ks → ix x (ks ++ ms) = ks.length + ix x ms
 | [], _ => by simp
 | k :: ks, h => by
  simp only [List.mem_cons, not_or] at h
  simp only [List.cons_append, ix, h.1, if_false, ix_append_right h.2, List.length_cons]
  omega
def add (ks : List α) (k : α) : List α := if k ∈ ks then ks else ks ++ [k]
def dd (l : List α) : List α := l.foldl add []
theorem mem_add {ks : List α} {k x : α} : x ∈ add ks k ↔ x ∈ ks ∨ x = k := by
 unfold add
 split
 ·rename_i h
  exact ⟨.inl, fun h' => h'.elim id (fun e => e ▸ h)⟩
 ·simp
theorem add_nodup {ks : List α} {k : α} (h : ks.Nodup) : (add ks k).Nodup := by
 unfold add
 split
 ·exact h
 ·rename_i hk
  rw [List.nodup_append]
  refine ⟨h, by simp, fun a ha b hb e => ?_⟩
  simp at hb; subst hb; subst e; exact hk ha
theorem add_prefix (ks : List α) (k : α) : ks <+: add ks k := by
 unfold add
 split
 ·exact List.prefix_refl _
 ·exact List.prefix_append _ _
theorem foldl_prefix : ∀ (l ks : List α), ks <+: l.foldl add ks
 | [], ks => List.prefix_refl _
 | k :: l, ks => (add_prefix ks k).trans (foldl_prefix l (add ks k))
theorem dd_append (l m : List α) : dd (l ++ m) = m.foldl add (dd l) := by simp [dd]
theorem dd_snoc (l : List α) (k : α) : dd (l ++ [k]) = add (dd l) k := by simp [dd]
theorem mem_dd {l : List α} {x : α} : x ∈ dd l ↔ x ∈ l := by
 have : ∀ (l ks : List α), x ∈ l.foldl add ks ↔ x ∈ ks ∨ x ∈ l := by
  intro l
  induction l with
  | nil => intro ks; simp
  | cons k l ih => intro ks; rw [List.foldl_cons, ih, mem_add, List.mem_cons, or_assoc]
 rw [dd, this]; simp
theorem ix_prefix {ks ms : List α} (h : ks <+: ms) {x : α} (hx : x ∈ ks) : ix x ms = ix x ks := by
 obtain ⟨t, rfl⟩ := h
 exact ix_append_left hx
theorem look_zip {x : α} : ∀ (ks : List α) (i : Nat), lookL x (ks.zipIdx i) = if x ∈ ks then some (i + ix x ks) else none
 | [], i => by simp [lookL]
 | k :: ks, i => by
  simp only [List.zipIdx_cons, lookL]
  by_cases e : x = k
  ·subst e; simp [ix]
  ·rw [if_neg e, look_zip ks (i + 1)]
   by_cases h : x ∈ ks
   ·simp [h, e, ix]; omega
   ·simp [h, e]
theorem zipIdx_fst (ks : List α) (i : Nat) : (ks.zipIdx i).map Prod.fst = ks := by
 induction ks generalizing i with
 | nil => rfl
 | cons k ks ih => simp [List.zipIdx_cons]
end
def rowK (cs : List Nat) (r : List Int) : List Nat := r.map fun to => cs.getD to.toNat 0
def keyD (d : DFA) (cs : List Nat) (s : Nat) : List UInt8 := keyK (cs.getD s 0) (rowK cs (d.next.getD s []))
def keysD (d : DFA) (cs : List Nat) : List (List UInt8) := (List.range d.next.length).map (keyD d cs)
def refineF (d : DFA) (cs : List Nat) : List Nat := (keysD d cs).map fun k => ix k (dd (keysD d cs))
theorem cells8_snoc (l : List UInt8) : cells8 (l ++ [32]) = cells8 l ++ [Value.int .u8 32] := by simp
theorem keyK_step {a j : Nat} {l : List Nat} (hj : j < l.length) : keyK a (l.take (j + 1)) = keyK a (l.take j) ++ [32] ++ Lib.decDigits l[j] := by
 rw [List.take_succ_eq_append_getElem hj, keyK, keyK, tailK_append]; simp
theorem tailK_len : ∀ {l : List Nat}, (∀ x ∈ l, x < 10000) → (tailK l).length ≤ 5 * l.length
 | [], _ => by simp [tailK]
 | a :: l, h => by
  have h1 := dec_len 3 a (by have := h a (by simp); omega)
  have h2 := tailK_len (l := l) (fun x hx => h x (by simp [hx]))
  simp only [tailK, List.length_cons, List.length_append]
  omega
theorem keyK_len {a : Nat} {l : List Nat} (ha : a < 10000) (h : ∀ x ∈ l, x < 10000) : (keyK a l).length ≤ 4 + 5 * l.length := by
 have h1 := dec_len 3 a (by omega)
 have h2 := tailK_len h
 simp only [keyK, List.length_append]
 omega
theorem keysD_take {d : DFA} {cs : List Nat} {k : Nat} (hk : k < d.next.length) : (keysD d cs).take (k + 1) = (keysD d cs).take k ++ [keyD d cs k] := by
 have hl : k < (keysD d cs).length := by simpa [keysD] using hk
 rw [List.take_succ_eq_append_getElem hl]
 simp [keysD]
theorem keyD_eq {d : DFA} {cs : List Nat} {k : Nat} (hk : k < d.next.length) (hc : k < cs.length) : keyD d cs k = keyK cs[k] (rowK cs d.next[k]) := by
 simp [keyD, hk, hc]
theorem rowK_lt {cs : List Nat} (h : ∀ x ∈ cs, x < 10000) {r : List Int} : ∀ x ∈ rowK cs r, x < 10000 := by
 intro x hx
 obtain ⟨to, _, rfl⟩ := List.mem_map.1 hx
 rw [List.getD_eq_getElem?_getD]
 cases e : cs[to.toNat]? with
 | none => simp
 | some y => exact h y (List.mem_of_getElem? e)
theorem dd_length {α : Type} [DecidableEq α] (l : List α) : (dd l).length ≤ l.length := by
 have : ∀ (l ks : List α), (l.foldl add ks).length ≤ ks.length + l.length := by
  intro l
  induction l with
  | nil => intro ks; simp
  | cons k l ih =>
   intro ks
   have h1 := ih (add ks k)
   have h2 : (add ks k).length ≤ ks.length + 1 := by unfold add; split <;> simp
   simp only [List.foldl_cons, List.length_cons]
   omega
 simpa [dd] using this l []
theorem keyD_mem {d : DFA} {cs : List Nat} {k s : Nat} (hs : s < k) (hk : k ≤ d.next.length) : keyD d cs s ∈ (keysD d cs).take k := by
 rw [keysD, ← List.map_take]
 refine List.mem_map_of_mem ?_
 rw [List.take_range]
 simp; omega
theorem rowK_length (cs : List Nat) (r : List Int) : (rowK cs r).length = r.length := List.length_map _
theorem rowK_get {cs : List Nat} {r : List Int} {j : Nat} (hj : j < r.length) (h : r[j].toNat < cs.length) : (rowK cs r)[j]'(by rw [rowK_length]; exact hj) = cs[r[j].toNat] := by
 simp [rowK, h]
theorem keyK_row {cs : List Nat} {r : List Int} {a j : Nat} (hj : j < r.length) (h : r[j].toNat < cs.length) : keyK a ((rowK cs r).take (j + 1)) = keyK a ((rowK cs r).take j) ++ [32] ++ Lib.decDigits cs[r[j].toNat] := by
 rw [keyK_step (by rw [rowK_length]; exact hj), rowK_get hj h]
def beginF (d : DFA) : List Nat := (List.range d.next.length).map fun s => if d.final.getD s false ≠ d.final.getD 0 false then 1 else 0
def itF (d : DFA) : Nat → List Nat
 | 0 => beginF d
 | i + 1 => refineF d (itF d i)
theorem itF_length (d : DFA) (i : Nat) : (itF d i).length = d.next.length := by
 cases i <;> simp [itF, beginF, refineF, keysD]
theorem refineF_lt {d : DFA} {cs : List Nat} {x : Nat} (h : x ∈ refineF d cs) : x < d.next.length := by
 obtain ⟨k, hk, rfl⟩ := List.mem_map.1 h
 have h1 := ix_lt (mem_dd.2 hk)
 have h2 := dd_length (keysD d cs)
 have h3 : (keysD d cs).length = d.next.length := by simp [keysD]
 omega
theorem itF_lt {d : DFA} (hn : d.next.length < 10000) (i : Nat) : ∀ x ∈ itF d i, x < 10000 := by
 cases i with
 | zero =>
  intro x hx
  obtain ⟨s, _, rfl⟩ := List.mem_map.1 hx
  split <;> omega
 | succ i => intro x hx; have := refineF_lt hx; omega
theorem itF_stable {d : DFA} {i : Nat} (h : refineF d (itF d i) = itF d i) : ∀ m, i ≤ m → itF d m = itF d i := by
 intro m hm
 induction hm with
 | refl => rfl
 | step _ ih => rw [itF, ih, h]
def exN (tr : List UInt8 → Nat → List UInt8) (L : Nat) (start : List UInt8) : Nat → List (List UInt8)
 | 0 => [start]
 | s + 1 => ((List.range L).map (tr ((exN tr L start s).getD s []))).foldl add (exN tr L start s)
def exRow (tr : List UInt8 → Nat → List UInt8) (L : Nat) (ks : List (List UInt8)) (s : Nat) : List Int :=
 (List.range L).map fun x => ((ix (tr (ks.getD s []) x) ks : Nat) : Int)
theorem foldl_add_snoc {α : Type} [DecidableEq α] (f : Nat → α) (ks : List α) (x : Nat) : ((List.range (x + 1)).map f).foldl add ks = add (((List.range x).map f).foldl add ks) (f x) := by
 rw [List.range_succ, List.map_append, List.foldl_append]; rfl
theorem mem_foldl_add {α : Type} [DecidableEq α] {y : α} : ∀ (l ks : List α), y ∈ l.foldl add ks ↔ y ∈ ks ∨ y ∈ l
 | [], ks => by simp
 | k :: l, ks => by rw [List.foldl_cons, mem_foldl_add l, mem_add, List.mem_cons, or_assoc]
theorem prefix_getD {ks ms : List (List UInt8)} (h : ks <+: ms) {s : Nat} (hs : s < ks.length) : ms.getD s [] = ks.getD s [] := by
 obtain ⟨t, rfl⟩ := h
 rw [List.getD_eq_getElem?_getD, List.getD_eq_getElem?_getD, List.getElem?_append_left hs]
structure ExOk (tr : List UInt8 → Nat → List UInt8) (L : Nat) (ks : List (List UInt8)) (s : Nat) (rs : List (List Int)) : Prop where
 len : rs.length = s
 le : s ≤ ks.length
 row : ∀ i, i < s → rs[i]? = some (exRow tr L ks i)
 mem : ∀ i, i < s → ∀ x, x < L → tr (ks.getD i []) x ∈ ks
theorem exRow_prefix {tr : List UInt8 → Nat → List UInt8} {L : Nat} {ks ms : List (List UInt8)} (h : ks <+: ms) {s : Nat} (hs : s < ks.length) (hm : ∀ x, x < L → tr (ks.getD s []) x ∈ ks) : exRow tr L ms s = exRow tr L ks s := by
 unfold exRow
 apply List.map_congr_left
 intro x hx
 rw [prefix_getD h hs, ix_prefix h (hm x (List.mem_range.1 hx))]
theorem ExOk.snoc {tr : List UInt8 → Nat → List UInt8} {L : Nat} {ks ms : List (List UInt8)} {s : Nat} {rs : List (List Int)} {ys : List Int} (h : ExOk tr L ks s rs) (hp : ks <+: ms) (hs : s < ks.length) (hy : ys = exRow tr L ms s) (hm : ∀ x, x < L → tr (ms.getD s []) x ∈ ms) : ExOk tr L ms (s + 1) (rs ++ [ys]) := by
 have hle := hp.length_le
 refine ⟨by simp [h.len], by omega, fun i hi => ?_, fun i hi => ?_⟩
 ·by_cases e : i = s
  ·subst e; rw [List.getElem?_append_right (by rw [h.len]; exact Nat.le_refl _), h.len, hy]; simp
  ·rw [List.getElem?_append_left (by rw [h.len]; omega), h.row i (by omega), exRow_prefix hp (by omega) (h.mem i (by omega))]
 ·by_cases e : i = s
  ·subst e; exact hm
  ·intro x hx
   rw [prefix_getD hp (by omega)]
   exact hp.subset (h.mem i (by omega) x hx)
def undec (l : List UInt8) : Nat := l.foldl (fun a b => a * 10 + (b.toNat - 48)) 0
theorem undec_dec (u : Nat) : undec (Lib.decDigits u) = u := by
 induction u using Nat.strongRecOn with
 | _ u ih =>
  by_cases h : u < 10
  ·rw [dec_small h]
   show 0 * 10 + ((UInt8.ofNat (48 + u)).toNat - 48) = u
   rw [digit_toNat h]; omega
  ·rw [dec_big h, undec, List.foldl_append]
   have := ih (u / 10) (by omega)
   rw [undec] at this
   rw [this]
   show u / 10 * 10 + ((UInt8.ofNat (48 + u % 10)).toNat - 48) = u
   rw [digit_toNat (by omega)]; omega
def toN (d : DFA) (o x : Nat) : Nat := ((d.next.getD o []).getD x 0).toNat
def trD (d : DFA) (k : List UInt8) (x : Nat) : List UInt8 := Lib.decDigits (toN d (undec k) x)
def sucs (d : DFA) (o : Nat) : List Nat := (List.range (2 ^ d.vars.toNat)).map (toN d o)
def bfsN (d : DFA) : Nat → List Nat
 | 0 => [d.start.toNat]
 | s + 1 => if s < (bfsN d s).length then (sucs d ((bfsN d s).getD s 0)).foldl add (bfsN d s) else bfsN d s
def order (d : DFA) : List Nat := bfsN d d.next.length
def renum (d : DFA) : DFA where
 vars := d.vars
 start := 0
 next := (order d).map fun o => (sucs d o).map fun t => ((ix t (order d) : Nat) : Int)
 final := (order d).map fun o => d.final.getD o false
theorem Val.toN_lt {d : DFA} (hv : Val d) {o x : Nat} (ho : o < d.next.length) (hx : x < 2 ^ d.vars.toNat) : toN d o x < d.next.length ∧ ∃ h : o < d.next.length, ∃ hx' : x < d.next[o].length, d.next[o][x] = (toN d o x : Int) := by
 have hl : d.next[o].length = 2 ^ d.vars.toNat := hv.len _ (List.getElem_mem ho)
 have hx' : x < d.next[o].length := by omega
 have h1 := hv.ok _ (List.getElem_mem ho) _ (List.getElem_mem hx')
 have e : toN d o x = d.next[o][x].toNat := by simp [toN, ho, hx']
 exact ⟨by omega, ho, hx', by omega⟩
theorem nodup_bound : ∀ {n : Nat} {l : List Nat}, l.Nodup → (∀ x ∈ l, x < n) → l.length ≤ n
 | 0, l, _, hb => by
  cases l with
  | nil => simp
  | cons a l => exact absurd (hb a (by simp)) (by omega)
 | n + 1, l, h, hb => by
  by_cases hn : n ∈ l
  ·have h1 := nodup_bound (n := n) (h.erase n) fun x hx => by
    have := (List.Nodup.mem_erase_iff h).1 hx
    have := hb x this.2
    omega
   rw [List.length_erase_of_mem hn] at h1
   omega
  ·have := nodup_bound (n := n) h fun x hx => by
    have := hb x hx
    have : x ≠ n := fun e => hn (e ▸ hx)
    omega
   omega
theorem map_add {α β : Type} [DecidableEq α] [DecidableEq β] {f : α → β} (hf : ∀ a b, f a = f b → a = b) (ks : List α) (k : α) : (add ks k).map f = add (ks.map f) (f k) := by
 unfold add
 by_cases h : k ∈ ks
 ·rw [if_pos h, if_pos (List.mem_map_of_mem h)]
 ·rw [if_neg h, if_neg (fun hh => by obtain ⟨a, ha, e⟩ := List.mem_map.1 hh; exact h (hf _ _ e ▸ ha))]
  simp
theorem map_foldl_add {α β : Type} [DecidableEq α] [DecidableEq β] {f : α → β} (hf : ∀ a b, f a = f b → a = b) : ∀ (l ks : List α), (l.foldl add ks).map f = (l.map f).foldl add (ks.map f)
 | [], ks => rfl
 | k :: l, ks => by rw [List.foldl_cons, map_foldl_add hf l, map_add hf, List.map_cons, List.foldl_cons]
theorem exN_bfs (d : DFA) : ∀ (N : Nat), (∀ i, i < N → i < (exN (trD d) (2 ^ d.vars.toNat) (Lib.decDigits d.start.toNat) i).length) →
  exN (trD d) (2 ^ d.vars.toNat) (Lib.decDigits d.start.toNat) N = (bfsN d N).map Lib.decDigits
 | 0, _ => rfl
 | N + 1, h => by
  have ih := exN_bfs d N fun i hi => h i (by omega)
  have hN := h N (by omega)
  rw [ih, List.length_map] at hN
  rw [exN, ih, bfsN, if_pos hN, map_foldl_add dec_inj]
  congr 1
  rw [sucs, List.map_map]
  apply List.map_congr_left
  intro x _
  have e : ((bfsN d N).map Lib.decDigits).getD N [] = Lib.decDigits ((bfsN d N).getD N 0) := by
   simp [hN]
  rw [e, trD, undec_dec]; rfl
theorem bfsN_stable {d : DFA} {N : Nat} (h : (bfsN d N).length = N) : ∀ m, N ≤ m → bfsN d m = bfsN d N := by
 intro m hm
 induction hm with
 | refl => rfl
 | @step m hm ih =>
  have hm' : N ≤ m := hm
  rw [bfsN, ih, if_neg (by omega)]
theorem order_eq {d : DFA} {N : Nat} (h : (bfsN d N).length = N) (hn : N ≤ d.next.length) : order d = bfsN d N := bfsN_stable h _ hn
theorem dec_ix (os : List Nat) (t : Nat) : ix (Lib.decDigits t) (os.map Lib.decDigits) = ix t os := by
 induction os with
 | nil => rfl
 | cons o os ih =>
  simp only [List.map_cons, ix, ih]
  by_cases e : t = o
  ·simp [e]
  ·rw [if_neg e, if_neg (fun h => e (dec_inj _ _ h))]
theorem map_dec_inj : ∀ {a b : List Nat}, a.map Lib.decDigits = b.map Lib.decDigits → a = b
 | [], [], _ => rfl
 | [], _ :: _, h => by simp at h
 | _ :: _, [], h => by simp at h
 | x :: a, y :: b, h => by
  simp only [List.map_cons, List.cons.injEq] at h
  rw [dec_inj x y h.1, map_dec_inj h.2]
theorem ren_order {d : DFA} {os : List Nat} {N : Nat} (hen : ∀ i, i < N → i < (exN (trD d) (2 ^ d.vars.toNat) (Lib.decDigits d.start.toNat) i).length)
  (hks : exN (trD d) (2 ^ d.vars.toNat) (Lib.decDigits d.start.toNat) N = os.map Lib.decDigits) (hlen : (exN (trD d) (2 ^ d.vars.toNat) (Lib.decDigits d.start.toNat) N).length = N) (hle : os.length ≤ d.next.length) : os = order d ∧ os.length = N := by
 have h1 : os.length = N := by rw [← hlen, hks, List.length_map]
 have h2 : os = bfsN d N := map_dec_inj (by rw [← hks, exN_bfs d N hen])
 exact ⟨by rw [order_eq (N := N) (by rw [← h2]; exact h1) (by omega)]; exact h2, h1⟩
theorem ren_next {d : DFA} {os : List Nat} {N : Nat} {rs : List (List Int)} (hks : exN (trD d) (2 ^ d.vars.toNat) (Lib.decDigits d.start.toNat) N = os.map Lib.decDigits) (hE : ExOk (trD d) (2 ^ d.vars.toNat) (exN (trD d) (2 ^ d.vars.toNat) (Lib.decDigits d.start.toNat) N) N rs) (ho : os = order d) (hN : os.length = N) : rs = (renum d).next := by
 apply List.ext_getElem?
 intro i
 by_cases hi : i < N
 ·rw [hE.row i hi, hks]
  have hi' : i < os.length := by omega
  have e : (os.map Lib.decDigits).getD i [] = Lib.decDigits os[i] := by simp [hi']
  simp only [renum, List.getElem?_map, ← ho, List.getElem?_eq_getElem hi', Option.map_some, exRow, e, trD, undec_dec, sucs, List.map_map]
  refine congrArg some (List.map_congr_left fun x _ => ?_)
  simp only [Function.comp_def, dec_ix]
 ·rw [List.getElem?_eq_none (by rw [hE.len]; omega), List.getElem?_eq_none (by simp [renum, ← ho]; omega)]
def quoN (d : DFA) (cs : List Nat) : Nat → List (List Int) × List Bool
 | 0 => ([], [])
 | k + 1 => if cs.getD k 0 < (quoN d cs k).1.length then quoN d cs k else
   ((quoN d cs k).1 ++ [(rowK cs (d.next.getD k [])).map fun c : Nat => (c : Int)], (quoN d cs k).2 ++ [d.final.getD k false])
def quo (d : DFA) (cs : List Nat) : DFA where
 vars := d.vars
 start := ((cs.getD d.start.toNat 0 : Nat) : Int)
 next := (quoN d cs d.next.length).1
 final := (quoN d cs d.next.length).2
theorem quoN_len (d : DFA) (cs : List Nat) : ∀ k, (quoN d cs k).1.length = (quoN d cs k).2.length ∧ (quoN d cs k).1.length ≤ k
 | 0 => by simp [quoN]
 | k + 1 => by
  have ih := quoN_len d cs k
  rw [quoN]
  split
  ·exact ⟨ih.1, by omega⟩
  ·simp; omega
end Go.Lx


namespace Go.Lx
theorem snocInd {α : Type} {p : List α → Prop} (h0 : p []) (h1 : ∀ l x, p l → p (l ++ [x])) : ∀ l, p l := fun l => by
 rw [← List.reverse_reverse l]
 generalize l.reverse = m
 induction m with
 | nil => exact h0
 | cons a m ih => rw [List.reverse_cons]; exact h1 _ _ ih
abbrev letN (d : DFA) : Nat := 2 ^ d.vars.toNat
def runN (d : DFA) (s : Nat) (w : List Nat) : Nat := w.foldl (toN d) s
def finN (d : DFA) (s : Nat) : Bool := d.final.getD s false
def dst (d : DFA) (s t : Nat) (w : List Nat) : Prop := finN d (runN d s w) ≠ finN d (runN d t w)
def Wd (d : DFA) (w : List Nat) : Prop := ∀ x ∈ w, x < letN d
def code (w : List Nat) : Nat := w.foldl (fun a x => a * 65 + (x + 1)) 0
theorem code_snoc (w : List Nat) (x : Nat) : code (w ++ [x]) = code w * 65 + (x + 1) := by simp [code]
theorem runN_snoc (d : DFA) (s : Nat) (w : List Nat) (x : Nat) : runN d s (w ++ [x]) = toN d (runN d s w) x := by simp [runN]
theorem code_inj : ∀ (w u : List Nat), (∀ x ∈ w, x < 64) → (∀ x ∈ u, x < 64) → code w = code u → w = u := by
 refine snocInd ?_ ?_
 ·refine snocInd (fun _ _ _ => rfl) ?_
  intro u y _ _ _ h
  rw [code_snoc] at h
  exact absurd h (by simp [code])
 ·intro w x ih
  refine snocInd ?_ ?_
  ·intro _ _ h
   rw [code_snoc] at h
   exact absurd h (by simp [code])
  ·intro u y _ hw hu h
   rw [code_snoc, code_snoc] at h
   have hx := hw x (by simp)
   have hy := hu y (by simp)
   have e : x = y := by omega
   have := ih u (fun z hz => hw z (by simp [hz])) (fun z hz => hu z (by simp [hz])) (by omega)
   rw [this, e]
theorem code_len : ∀ (w u : List Nat), (∀ x ∈ w, x < 64) → (∀ x ∈ u, x < 64) → code w ≤ code u → w.length ≤ u.length := by
 refine snocInd (fun u _ _ _ => by simp) ?_
 intro w x ih
 refine snocInd ?_ ?_
 ·intro _ _ h
  rw [code_snoc] at h
  simp [code] at h
 ·intro u y _ hw hu h
  rw [code_snoc, code_snoc] at h
  have hx := hw x (by simp)
  have hy := hu y (by simp)
  have := ih u (fun z hz => hw z (by simp [hz])) (fun z hz => hu z (by simp [hz])) (by omega)
  simpa using this
structure IsLeast (d : DFA) (s t : Nat) (w : List Nat) : Prop where
 wd : Wd d w
 dst : dst d s t w
 le : ∀ u, Wd d u → Lx.dst d s t u → code w ≤ code u
def Tell (d : DFA) (s t : Nat) : Option (List Nat) → Prop
 | some w => IsLeast d s t w
 | none => ∀ u, Wd d u → ¬ dst d s t u
theorem Val.wd64 {d : DFA} (hv : Val d) {w : List Nat} (h : Wd d w) : ∀ x ∈ w, x < 64 := fun x hx => by
 have := h x hx; have := hv.width; unfold letN at *; omega
theorem Tell.unique {d : DFA} (hv : Val d) {s t : Nat} {a b : Option (List Nat)} (ha : Tell d s t a) (hb : Tell d s t b) : a = b := by
 cases a with
 | none =>
  cases b with
  | none => rfl
  | some w => exact absurd hb.dst (ha w hb.wd)
 | some u =>
  cases b with
  | none => exact absurd ha.dst (hb u ha.wd)
  | some w =>
   have h1 := ha.le w hb.wd hb.dst
   have h2 := hb.le u ha.wd ha.dst
   rw [code_inj u w (hv.wd64 ha.wd) (hv.wd64 hb.wd) (by omega)]
abbrev Stp := (Nat × Nat) × List Nat
def suc2 (d : DFA) (p : Nat × Nat) (x : Nat) : Nat × Nat := (toN d p.1 x, toN d p.2 x)
def pushS (d : DFA) (q : Stp) (a : List Stp) (x : Nat) : List Stp := if suc2 d q.1 x ∈ a.map Prod.fst then a else a ++ [(suc2 d q.1 x, q.2 ++ [x])]
def pushN (d : DFA) (q : Stp) (a : List Stp) : Nat → List Stp
 | 0 => a
 | x + 1 => pushS d q (pushN d q a x) x
def bq (d : DFA) (s t : Nat) : Nat → List Stp
 | 0 => [((s, t), [])]
 | i + 1 => pushN d ((bq d s t i).getD i ((0, 0), [])) (bq d s t i) (letN d)
structure BfsI (d : DFA) (s t i : Nat) (A : List Stp) : Prop where
 run : ∀ q ∈ A, Wd d q.2 ∧ q.1 = (runN d s q.2, runN d t q.2)
 mono : ∀ (j k : Nat) (qj qk : Stp), j < k → A[j]? = some qj → A[k]? = some qk → code qj.2 < code qk.2
 nd : (A.map Prod.fst).Nodup
 suc : ∀ j q, j < i → A[j]? = some q → ∀ x, x < letN d → ∃ q' ∈ A, q'.1 = suc2 d q.1 x ∧ code q'.2 ≤ code q.2 * 65 + (x + 1)
 top : ∀ q, A[i]? = some q → ∀ q' ∈ A, code q'.2 < code q.2 * 65 + 1
 first : ∃ q, A[0]? = some q ∧ q.1 = (s, t) ∧ q.2 = []
theorem BfsI.zero (d : DFA) (s t : Nat) : BfsI d s t 0 (bq d s t 0) := by
 refine ⟨?_, ?_, by simp [bq], fun j q h => absurd h (by omega), ?_, ⟨_, rfl, rfl, rfl⟩⟩
 ·intro q hq
  simp only [bq, List.mem_singleton] at hq
  subst hq
  exact ⟨fun x hx => by simp at hx, rfl⟩
 ·intro j k qj qk hjk _ hk
  simp only [bq] at hk
  have : k = 0 := by
   cases k with
   | zero => rfl
   | succ k => simp at hk
  omega
 ·intro q hq q' hq'
  simp only [bq, List.mem_singleton] at hq'
  subst hq'
  simp [code]
structure BfsM (d : DFA) (s t i : Nat) (q : Stp) (x : Nat) (A : List Stp) : Prop where
 run : ∀ q ∈ A, Wd d q.2 ∧ q.1 = (runN d s q.2, runN d t q.2)
 mono : ∀ (j k : Nat) (qj qk : Stp), j < k → A[j]? = some qj → A[k]? = some qk → code qj.2 < code qk.2
 nd : (A.map Prod.fst).Nodup
 suc : ∀ j q, j < i → A[j]? = some q → ∀ x, x < letN d → ∃ q' ∈ A, q'.1 = suc2 d q.1 x ∧ code q'.2 ≤ code q.2 * 65 + (x + 1)
 suci : ∀ y, y < x → ∃ q' ∈ A, q'.1 = suc2 d q.1 y ∧ code q'.2 ≤ code q.2 * 65 + (y + 1)
 top : ∀ q' ∈ A, code q'.2 < code q.2 * 65 + (x + 1)
 at_ : A[i]? = some q
 first : ∃ q, A[0]? = some q ∧ q.1 = (s, t) ∧ q.2 = []
theorem BfsM.step {d : DFA} {s t i : Nat} {q : Stp} {x : Nat} {A : List Stp} (h : BfsM d s t i q x A) (hx : x < letN d) : BfsM d s t i q (x + 1) (pushS d q A x) := by
 have hq := List.mem_of_getElem? h.at_
 unfold pushS
 split
 ·rename_i hin
  obtain ⟨q', hq', e⟩ := List.mem_map.1 hin
  refine ⟨h.run, h.mono, h.nd, h.suc, fun y hy => ?_, fun q' hq' => by have := h.top q' hq'; omega, h.at_, h.first⟩
  by_cases ey : y = x
  ·subst ey; exact ⟨q', hq', e, by have := h.top q' hq'; omega⟩
  ·exact h.suci y (by omega)
 ·rename_i hout
  have hil : i < A.length := by have := List.getElem?_eq_some_iff.1 h.at_; exact this.1
  refine ⟨?_, ?_, ?_, ?_, ?_, ?_, ?_, ?_⟩
  ·intro p hp
   rcases List.mem_append.1 hp with hp | hp
   ·exact h.run p hp
   ·simp only [List.mem_singleton] at hp
    subst hp
    obtain ⟨h1, h2⟩ := h.run q hq
    refine ⟨?_, ?_⟩
    ·intro y hy
     rcases List.mem_append.1 hy with hy | hy
     ·exact h1 y hy
     ·simp only [List.mem_singleton] at hy; subst hy; exact hx
    ·rw [runN_snoc, runN_snoc]; simp only [suc2, h2]
  ·intro j k qj qk hjk hj hk
   by_cases ek : k < A.length
   ·rw [List.getElem?_append_left (by omega)] at hj
    rw [List.getElem?_append_left ek] at hk
    exact h.mono j k qj qk hjk hj hk
   ·rw [List.getElem?_append_right (by omega)] at hk
    have ek0 : k - A.length = 0 := by
     cases e : k - A.length with
     | zero => rfl
     | succ m => rw [e] at hk; simp at hk
    rw [ek0] at hk
    simp at hk
    subst hk
    rw [List.getElem?_append_left (by omega)] at hj
    show code qj.2 < code (q.2 ++ [x])
    rw [code_snoc]
    exact h.top qj (List.mem_of_getElem? hj)
  ·rw [List.map_append, List.nodup_append]
   refine ⟨h.nd, by simp, fun a ha b hb e => ?_⟩
   simp at hb; subst hb; subst e; exact hout ha
  ·intro j qj hj hq x hx
   rw [List.getElem?_append_left (by omega)] at hq
   obtain ⟨q', h1, h2⟩ := h.suc j qj hj hq x hx
   exact ⟨q', List.mem_append_left _ h1, h2⟩
  ·intro y hy
   by_cases ey : y = x
   ·subst ey; exact ⟨_, List.mem_append_right _ (List.mem_singleton.2 rfl), rfl, by rw [code_snoc]; exact Nat.le_refl _⟩
   ·obtain ⟨q', h1, h2⟩ := h.suci y (by omega)
    exact ⟨q', List.mem_append_left _ h1, h2⟩
  ·intro p hp
   rcases List.mem_append.1 hp with hp | hp
   ·have := h.top p hp; omega
   ·simp only [List.mem_singleton] at hp
    subst hp
    rw [code_snoc]; omega
  ·rw [List.getElem?_append_left hil]; exact h.at_
  ·obtain ⟨q0, h1, h2⟩ := h.first
   exact ⟨q0, by rw [List.getElem?_append_left (by omega)]; exact h1, h2⟩
theorem BfsI.mid {d : DFA} {s t i : Nat} {q : Stp} {A : List Stp} (h : BfsI d s t i A) (hq : A[i]? = some q) : ∀ x, x ≤ letN d → BfsM d s t i q x (pushN d q A x)
 | 0, _ => ⟨h.run, h.mono, h.nd, h.suc, fun y hy => absurd hy (by omega), h.top q hq, hq, h.first⟩
 | x + 1, hx => (BfsI.mid h hq x (by omega)).step (by omega)
theorem BfsI.step {d : DFA} (hv : Val d) {s t i : Nat} {q : Stp} (h : BfsI d s t i (bq d s t i)) (hq : (bq d s t i)[i]? = some q) : BfsI d s t (i + 1) (bq d s t (i + 1)) := by
 have hm := h.mid hq (letN d) (Nat.le_refl _)
 have e : bq d s t (i + 1) = pushN d q (bq d s t i) (letN d) := by
  rw [bq, List.getD_eq_getElem?_getD, hq]; rfl
 rw [e]
 have hw := hv.width
 refine ⟨hm.run, hm.mono, hm.nd, ?_, ?_, hm.first⟩
 ·intro j qj hj hqj x hx
  by_cases ej : j = i
  ·subst ej
   rw [hm.at_] at hqj
   cases hqj
   exact hm.suci x hx
  ·exact hm.suc j qj (by omega) hqj x hx
 ·intro q2 hq2 q' hq'
  have h1 := hm.mono i (i + 1) q q2 (by omega) hm.at_ hq2
  have h2 := hm.top q' hq'
  have h3 : letN d ≤ 64 := hw
  omega
theorem pushN_get {d : DFA} {q : Stp} {A : List Stp} {j : Nat} {p : Stp} (h : A[j]? = some p) : ∀ x, (pushN d q A x)[j]? = some p
 | 0 => h
 | x + 1 => by
  have ih := pushN_get (d := d) (q := q) h x
  rw [pushN, pushS]
  split
  ·exact ih
  ·rw [List.getElem?_append_left (List.getElem?_eq_some_iff.1 ih).1]; exact ih
theorem bq_get {d : DFA} {s t j : Nat} {p : Stp} {k i : Nat} (h : (bq d s t k)[j]? = some p) (hki : k ≤ i) : (bq d s t i)[j]? = some p := by
 induction hki with
 | refl => exact h
 | step _ ih => rw [bq]; exact pushN_get ih _
end Go.Lx


namespace Go.Lx
open Go.RowKit
structure QRec where
 p : Nat × Nat
 b : Option Addr
 c : Nat
 xs : List Nat
def QRec.cells (q : QRec) : List Value := [.int .i64 ((q.p.1 : Nat) : Int), .int .i64 ((q.p.2 : Nat) : Int), .slice q.b q.xs.length q.c]
def QRec.itm (E : TypeId) (q : QRec) : Item := rowI q.b q.c E 1 (byts q.xs)
def QRec.stp (q : QRec) : Stp := (q.p, q.xs)
abbrev qitms (E : TypeId) (rs : List QRec) : List Item := rs.map (QRec.itm E)
theorem runN_lt {d : DFA} (hv : Val d) {s : Nat} (hs : s < d.next.length) : ∀ w, Wd d w → runN d s w < d.next.length := by
 refine snocInd (fun _ => hs) ?_
 intro w x ih hw
 rw [runN_snoc]
 exact (hv.toN_lt (ih fun y hy => hw y (by simp [hy])) (hw x (by simp))).1
theorem pushN_wlen {d : DFA} {q : Stp} {m : Nat} (hq : q.2.length ≤ m) {A : List Stp} (h : ∀ r ∈ A, r.2.length ≤ m) : ∀ x, ∀ r ∈ pushN d q A x, r.2.length ≤ m + 1
 | 0, r, hr => by have := h r hr; omega
 | x + 1, r, hr => by
  rw [pushN, pushS] at hr
  split at hr
  ·exact pushN_wlen hq h x r hr
  ·rcases List.mem_append.1 hr with hr | hr
   ·exact pushN_wlen hq h x r hr
   ·rw [List.mem_singleton.1 hr]; simp; omega
theorem bq_wlen (d : DFA) (s t : Nat) : ∀ i, ∀ r ∈ bq d s t i, r.2.length ≤ i
 | 0, r, hr => by simp only [bq, List.mem_singleton] at hr; subst hr; simp
 | i + 1, r, hr => by
  rw [bq] at hr
  refine pushN_wlen ?_ (bq_wlen d s t i) _ r hr
  rw [List.getD_eq_getElem?_getD]
  cases e : (bq d s t i)[i]? with
  | none => simp
  | some p => exact bq_wlen d s t i p (List.mem_of_getElem? e)
theorem bq_succ {d : DFA} {s t i : Nat} {q : Stp} (hq : (bq d s t i)[i]? = some q) : bq d s t (i + 1) = pushN d q (bq d s t i) (letN d) := by
 rw [bq, List.getD_eq_getElem?_getD, hq]; rfl
end Go.Lx
namespace Go.Lx
open Go.RowKit
end Go.Lx


namespace Go.Lx
section
variable {α β : Type} [DecidableEq α] [DecidableEq β]
def nrm (l : List α) : List Nat := l.map fun k => ix k (dd l)
theorem nrm_length (l : List α) : (nrm l).length = l.length := List.length_map _
theorem nrm_get {l : List α} {i : Nat} {a : α} (h : l[i]? = some a) : (nrm l)[i]? = some (ix a (dd l)) := by
 rw [nrm, List.getElem?_map, h]; rfl
theorem nrm_inj {l : List α} {i j : Nat} {a b : α} (hi : l[i]? = some a) (hj : l[j]? = some b) : (nrm l)[i]? = (nrm l)[j]? ↔ a = b := by
 rw [nrm_get hi, nrm_get hj]
 refine ⟨fun h => ix_inj (mem_dd.2 (List.mem_of_getElem? hi)) (mem_dd.2 (List.mem_of_getElem? hj)) (Option.some.inj h), fun h => h ▸ rfl⟩
theorem dd_mem_snoc {l : List α} {a : α} (h : a ∈ l) : dd (l ++ [a]) = dd l := by
 rw [dd_snoc, add, if_pos (mem_dd.2 h)]
theorem dd_new_snoc {l : List α} {a : α} (h : a ∉ l) : dd (l ++ [a]) = dd l ++ [a] := by
 rw [dd_snoc, add, if_neg (fun hh => h (mem_dd.1 hh))]
theorem nrm_pairs : ∀ zs : List (α × β), (∀ p ∈ zs, ∀ q ∈ zs, p.1 = q.1 ↔ p.2 = q.2) →
  (dd (zs.map Prod.fst)).length = (dd (zs.map Prod.snd)).length ∧ ∀ p ∈ zs, ix p.1 (dd (zs.map Prod.fst)) = ix p.2 (dd (zs.map Prod.snd)) := by
 refine snocInd (fun _ => ⟨rfl, fun p hp => by simp at hp⟩) ?_
 intro zs z ih h
 obtain ⟨h1, h2⟩ := ih fun p hp q hq => h p (List.mem_append_left _ hp) q (List.mem_append_left _ hq)
 have hz : z ∈ zs ++ [z] := by simp
 have hmem : z.1 ∈ zs.map Prod.fst ↔ z.2 ∈ zs.map Prod.snd := by
  constructor
  ·intro hm
   obtain ⟨p, hp, e⟩ := List.mem_map.1 hm
   exact List.mem_map.2 ⟨p, hp, ((h p (List.mem_append_left _ hp) z hz).1 e)⟩
  ·intro hm
   obtain ⟨p, hp, e⟩ := List.mem_map.1 hm
   exact List.mem_map.2 ⟨p, hp, ((h p (List.mem_append_left _ hp) z hz).2 e)⟩
 simp only [List.map_append, List.map_cons, List.map_nil]
 by_cases hm : z.1 ∈ zs.map Prod.fst
 ·rw [dd_mem_snoc hm, dd_mem_snoc (hmem.1 hm)]
  refine ⟨h1, fun p hp => ?_⟩
  rcases List.mem_append.1 hp with hp | hp
  ·exact h2 p hp
  ·simp only [List.mem_singleton] at hp
   subst hp
   obtain ⟨q, hq, e⟩ := List.mem_map.1 hm
   have e2 := (h q (List.mem_append_left _ hq) p hz).1 e
   rw [← e, ← e2]; exact h2 q hq
 ·have hm2 : z.2 ∉ zs.map Prod.snd := fun hh => hm (hmem.2 hh)
  rw [dd_new_snoc hm, dd_new_snoc hm2]
  refine ⟨by simp [h1], fun p hp => ?_⟩
  rcases List.mem_append.1 hp with hp | hp
  ·rw [ix_append_left (mem_dd.2 (List.mem_map_of_mem hp)), ix_append_left (mem_dd.2 (List.mem_map_of_mem hp))]
   exact h2 p hp
  ·simp only [List.mem_singleton] at hp
   subst hp
   rw [ix_append_right (fun hh => hm (mem_dd.1 hh)), ix_append_right (fun hh => hm2 (mem_dd.1 hh)), h1]
   simp [ix]
theorem dd_finer : ∀ zs : List (α × β), (∀ p ∈ zs, ∀ q ∈ zs, p.1 = q.1 → p.2 = q.2) →
  (dd (zs.map Prod.snd)).length ≤ (dd (zs.map Prod.fst)).length ∧ ((dd (zs.map Prod.snd)).length = (dd (zs.map Prod.fst)).length → ∀ p ∈ zs, ∀ q ∈ zs, p.2 = q.2 → p.1 = q.1) := by
 refine snocInd (fun _ => ⟨Nat.le_refl _, fun _ p hp => by simp at hp⟩) ?_
 intro zs z ih h
 obtain ⟨h1, h2⟩ := ih fun p hp q hq => h p (List.mem_append_left _ hp) q (List.mem_append_left _ hq)
 have hz : z ∈ zs ++ [z] := by simp
 simp only [List.map_append, List.map_cons, List.map_nil]
 by_cases hm : z.1 ∈ zs.map Prod.fst
 ·obtain ⟨q, hq, e⟩ := List.mem_map.1 hm
  have e2 := h q (List.mem_append_left _ hq) z hz e
  have hm2 : z.2 ∈ zs.map Prod.snd := List.mem_map.2 ⟨q, hq, e2⟩
  rw [dd_mem_snoc hm, dd_mem_snoc hm2]
  refine ⟨h1, fun he p hp p' hp' ee => ?_⟩
  have h2' := h2 he
  have lift : ∀ p ∈ zs ++ [z], ∃ p0 ∈ zs, p0.1 = p.1 ∧ p0.2 = p.2 := fun p hp => by
   rcases List.mem_append.1 hp with hp | hp
   ·exact ⟨p, hp, rfl, rfl⟩
   ·simp only [List.mem_singleton] at hp; subst hp; exact ⟨q, hq, e, e2⟩
  obtain ⟨a, ha, a1, a2⟩ := lift p hp
  obtain ⟨b, hb, b1, b2⟩ := lift p' hp'
  rw [← a1, ← b1]; exact h2' a ha b hb (by rw [a2, b2, ee])
 ·rw [dd_new_snoc hm]
  by_cases hm2 : z.2 ∈ zs.map Prod.snd
  ·rw [dd_mem_snoc hm2]
   refine ⟨by simp; omega, fun he => ?_⟩
   simp at he; omega
  ·rw [dd_new_snoc hm2]
   refine ⟨by simp; omega, fun he p hp p' hp' ee => ?_⟩
   have h2' := h2 (by simpa using he)
   rcases List.mem_append.1 hp with gp | gp
   ·rcases List.mem_append.1 hp' with gp' | gp'
    ·exact h2' p gp p' gp' ee
    ·have e := List.mem_singleton.1 gp'
     exact (hm2 (List.mem_map.2 ⟨p, gp, by rw [ee, e]⟩)).elim
   ·have e := List.mem_singleton.1 gp
    rcases List.mem_append.1 hp' with gp' | gp'
    ·exact (hm2 (List.mem_map.2 ⟨p', gp', by rw [← ee, e]⟩)).elim
    ·rw [e, List.mem_singleton.1 gp']
theorem zip_ends : ∀ {l : List α} {m : List β}, l.length = m.length → (l.zip m).map Prod.fst = l ∧ (l.zip m).map Prod.snd = m
 | [], [], _ => ⟨rfl, rfl⟩
 | a :: l, b :: m, h => by
  obtain ⟨h1, h2⟩ := zip_ends (l := l) (m := m) (by simpa using h)
  simp [h1, h2]
theorem zip_get {l : List α} {m : List β} (h : l.length = m.length) {p : α × β} (hp : p ∈ l.zip m) : ∃ i : Nat, l[i]? = some p.1 ∧ m[i]? = some p.2 := by
 obtain ⟨i, hi⟩ := List.getElem?_of_mem hp
 refine ⟨i, ?_, ?_⟩
 ·have := congrArg (Option.map Prod.fst) hi
  rw [← List.getElem?_map, (zip_ends h).1] at this; simpa using this
 ·have := congrArg (Option.map Prod.snd) hi
  rw [← List.getElem?_map, (zip_ends h).2] at this; simpa using this
theorem nrm_congr {l : List α} {m : List β} (hl : l.length = m.length) (h : ∀ (i j : Nat) (a b : α) (a' b' : β), l[i]? = some a → l[j]? = some b → m[i]? = some a' → m[j]? = some b' → (a = b ↔ a' = b')) : nrm l = nrm m ∧ (dd l).length = (dd m).length := by
 have h0 := nrm_pairs (l.zip m) fun p hp q hq => by
  obtain ⟨i, a1, a2⟩ := zip_get hl hp
  obtain ⟨j, b1, b2⟩ := zip_get hl hq
  exact h i j _ _ _ _ a1 b1 a2 b2
 rw [(zip_ends hl).1, (zip_ends hl).2] at h0
 refine ⟨?_, h0.1⟩
 apply List.ext_getElem?
 intro i
 by_cases hi : i < l.length
 ·have hi2 : i < m.length := by omega
  rw [nrm_get (List.getElem?_eq_getElem hi), nrm_get (List.getElem?_eq_getElem hi2)]
  have : (l[i], m[i]) ∈ l.zip m := by
   apply List.mem_of_getElem? (i := i)
   rw [List.getElem?_zip_eq_some]
   exact ⟨List.getElem?_eq_getElem hi, List.getElem?_eq_getElem hi2⟩
  exact congrArg some (h0.2 _ this)
 ·rw [List.getElem?_eq_none (by rw [nrm_length]; omega), List.getElem?_eq_none (by rw [nrm_length]; omega)]
end
def dif (d : DFA) : Nat → Nat → Nat → Bool
 | 0, s, t => finN d s != finN d t
 | k + 1, s, t => dif d k s t || (List.range (letN d)).any fun x => dif d k (toN d s x) (toN d t x)
theorem dif_iff (d : DFA) : ∀ k s t, dif d k s t = true ↔ ∃ u, Wd d u ∧ u.length ≤ k ∧ dst d s t u
 | 0, s, t => by
  simp only [dif, bne_iff_ne]
  constructor
  ·exact fun h => ⟨[], fun x hx => by simp at hx, Nat.le_refl _, h⟩
  ·rintro ⟨u, _, hl, h⟩
   have : u = [] := List.eq_nil_of_length_eq_zero (by omega)
   subst this; exact h
 | k + 1, s, t => by
  simp only [dif, Bool.or_eq_true, List.any_eq_true, List.mem_range, dif_iff d k]
  constructor
  ·rintro (⟨u, h1, h2, h3⟩ | ⟨x, hx, u, h1, h2, h3⟩)
   ·exact ⟨u, h1, by omega, h3⟩
   ·refine ⟨x :: u, fun y hy => ?_, by simp; omega, h3⟩
    rcases List.mem_cons.1 hy with rfl | hy
    ·exact hx
    ·exact h1 y hy
  ·rintro ⟨u, h1, h2, h3⟩
   cases u with
   | nil => exact .inl ⟨[], h1, by simp, h3⟩
   | cons x u => exact .inr ⟨x, h1 x (by simp), u, fun y hy => h1 y (by simp [hy]), by simpa using h2, h3⟩
theorem dif_self (d : DFA) (k s : Nat) : dif d k s s = false := by
 rw [Bool.eq_false_iff]
 intro h
 obtain ⟨u, _, _, h⟩ := (dif_iff d k s s).1 h
 exact h rfl
theorem toN_get {d : DFA} (hv : Val d) {s x : Nat} (hs : s < d.next.length) (hx : x < letN d) : toN d s x < d.next.length := (hv.toN_lt hs hx).1
theorem keyD_iff {d : DFA} (hv : Val d) {cs : List Nat} (hcl : cs.length = d.next.length) {s t : Nat} (hs : s < d.next.length) (ht : t < d.next.length) :
  keyD d cs s = keyD d cs t ↔ cs.getD s 0 = cs.getD t 0 ∧ ∀ x, x < letN d → cs.getD (toN d s x) 0 = cs.getD (toN d t x) 0 := by
 have hls : (d.next.getD s []).length = letN d := by simp [hs]; exact hv.len _ (List.getElem_mem hs)
 have hlt : (d.next.getD t []).length = letN d := by simp [ht]; exact hv.len _ (List.getElem_mem ht)
 have row : ∀ s, (d.next.getD s []).length = letN d → ∀ x, x < letN d → (rowK cs (d.next.getD s []))[x]? = some (cs.getD (toN d s x) 0) := by
  intro s hl x hx
  have hx' : x < (d.next.getD s []).length := by omega
  have e : (d.next.getD s []).getD x 0 = (d.next.getD s [])[x] := by rw [List.getD_eq_getElem?_getD, List.getElem?_eq_getElem hx']; rfl
  rw [rowK, List.getElem?_map, List.getElem?_eq_getElem hx', toN, e]
  rfl
 constructor
 ·intro h
  obtain ⟨h1, h2⟩ := keyK_inj h
  refine ⟨h1, fun x hx => ?_⟩
  have a := row s hls x hx
  rw [h2, row t hlt x hx] at a
  exact (Option.some.inj a).symm
 ·rintro ⟨h1, h2⟩
  unfold keyD
  rw [h1]
  congr 1
  apply List.ext_getElem?
  intro x
  by_cases hx : x < letN d
  ·rw [row s hls x hx, row t hlt x hx, h2 x hx]
  ·rw [List.getElem?_eq_none (by rw [rowK_length]; omega), List.getElem?_eq_none (by rw [rowK_length]; omega)]
theorem refineF_nrm (d : DFA) (cs : List Nat) : refineF d cs = nrm (keysD d cs) := rfl
theorem keysD_get {d : DFA} {cs : List Nat} {s : Nat} (hs : s < d.next.length) : (keysD d cs)[s]? = some (keyD d cs s) := by simp [keysD, hs]
theorem beginF_get {d : DFA} {s : Nat} (hs : s < d.next.length) : (beginF d)[s]? = some (if finN d s ≠ finN d 0 then 1 else 0) := by
 simp [beginF, hs, finN]
theorem getD_of {l : List Nat} {i a : Nat} (h : l[i]? = some a) : l.getD i 0 = a := by rw [List.getD_eq_getElem?_getD, h]; rfl
theorem itF_iff {d : DFA} (hv : Val d) : ∀ k s t, s < d.next.length → t < d.next.length → ((itF d k).getD s 0 = (itF d k).getD t 0 ↔ dif d k s t = false)
 | 0, s, t, hs, ht => by
  rw [itF, getD_of (beginF_get hs), getD_of (beginF_get ht), dif]
  cases finN d s <;> cases finN d t <;> cases finN d 0 <;> simp
 | k + 1, s, t, hs, ht => by
  have ih := itF_iff hv k
  rw [itF, refineF_nrm]
  have h1 := nrm_inj (keysD_get (cs := itF d k) hs) (keysD_get (cs := itF d k) ht)
  have e1 : (nrm (keysD d (itF d k))).getD s 0 = (nrm (keysD d (itF d k))).getD t 0 ↔ (nrm (keysD d (itF d k)))[s]? = (nrm (keysD d (itF d k)))[t]? := by
   rw [nrm_get (keysD_get hs), nrm_get (keysD_get ht), getD_of (nrm_get (keysD_get hs)), getD_of (nrm_get (keysD_get ht))]
   simp
  rw [e1, h1, keyD_iff hv (itF_length d k) hs ht, ih s t hs ht, dif, Bool.or_eq_false_iff]
  refine and_congr Iff.rfl ?_
  rw [List.any_eq_false]
  constructor
  ·intro h x hx
   have hx' := List.mem_range.1 hx
   rw [Bool.not_eq_true, ← ih _ _ (toN_get hv hs hx') (toN_get hv ht hx')]
   exact h x hx'
  ·intro h x hx
   rw [ih _ _ (toN_get hv hs hx) (toN_get hv ht hx), ← Bool.not_eq_true]
   exact h x (List.mem_range.2 hx)
end Go.Lx


namespace Go.Lx
section
variable {α : Type} [DecidableEq α]
theorem nrm_nrm (l : List α) : nrm (nrm l) = nrm l := by
 refine (nrm_congr (by rw [nrm_length]) ?_).1
 intro i j a b a' b' hi hj hi' hj'
 have := nrm_inj hi' hj'
 rw [hi, hj] at this
 simpa using this
def first (p : Nat → Bool) : Nat → Nat
 | 0 => 0
 | n + 1 => if first p n < n then first p n else if p n then n else n + 1
theorem first_le (p : Nat → Bool) : ∀ n, first p n ≤ n
 | 0 => Nat.le_refl _
 | n + 1 => by
  have := first_le p n
  rw [first]
  split
  ·omega
  ·split <;> omega
theorem first_spec (p : Nat → Bool) : ∀ n, (first p n < n → p (first p n) = true) ∧ ∀ t, t < first p n → p t = false
 | 0 => ⟨fun h => absurd h (by omega), fun t h => absurd h (by simp [first])⟩
 | n + 1 => by
  obtain ⟨h1, h2⟩ := first_spec p n
  have hle := first_le p n
  rw [first]
  by_cases h : first p n < n
  ·rw [if_pos h]; exact ⟨fun _ => h1 h, h2⟩
  ·have e : first p n = n := by omega
   rw [if_neg h]
   by_cases hp : p n = true
   ·rw [if_pos hp]; exact ⟨fun _ => hp, fun t ht => h2 t (by omega)⟩
   ·rw [if_neg hp]
    refine ⟨fun h => absurd h (by omega), fun t ht => ?_⟩
    by_cases et : t = n
    ·subst et; simpa using hp
    ·exact h2 t (by omega)
theorem first_eq {p : Nat → Bool} {n t : Nat} (hle : t ≤ n) (h1 : t < n → p t = true) (h2 : ∀ t', t' < t → p t' = false) : first p n = t := by
 obtain ⟨g1, g2⟩ := first_spec p n
 have hl := first_le p n
 rcases Nat.lt_trichotomy (first p n) t with h | h | h
 ·have := h2 _ h; rw [g1 (by omega)] at this; cases this
 ·exact h
 ·have := g2 _ h; rw [h1 (by omega)] at this; cases this
def labN (e : Nat → Nat → Bool) : Nat → List Nat × Nat
 | 0 => ([], 0)
 | s + 1 => if first (e s) s < s then ((labN e s).1 ++ [(labN e s).1.getD (first (e s) s) 0], (labN e s).2) else ((labN e s).1 ++ [(labN e s).2], (labN e s).2 + 1)
theorem labN_nrm {e : Nat → Nat → Bool} {l : List α} (he : ∀ (s t : Nat) (a b : α), l[s]? = some a → l[t]? = some b → (e s t = true ↔ a = b)) : ∀ s, s ≤ l.length → labN e s = (nrm (l.take s), (dd (l.take s)).length)
 | 0, _ => by simp [labN, nrm, dd]
 | s + 1, hs => by
  have hs' : s < l.length := by omega
  have ih := labN_nrm he s (by omega)
  have hg := List.getElem?_eq_getElem hs'
  obtain ⟨f1, f2⟩ := first_spec (e s) s
  rw [labN, ih, List.take_succ_eq_append_getElem hs']
  by_cases hf : first (e s) s < s
  ·have hfl : first (e s) s < l.length := by omega
   have hfg := List.getElem?_eq_getElem hfl
   have hsame : l[s] = l[first (e s) s] := (he _ _ _ _ hg hfg).1 (f1 hf)
   have hgt : (l.take s)[first (e s) s]? = some l[first (e s) s] := by rw [List.getElem?_take_of_lt hf]; exact hfg
   have hm : l[s] ∈ l.take s := by rw [hsame]; exact List.mem_of_getElem? hgt
   rw [if_pos hf, dd_mem_snoc hm]
   simp only [nrm, List.map_append, List.map_cons, List.map_nil, dd_mem_snoc hm]
   have : (nrm (l.take s)).getD (first (e s) s) 0 = ix l[s] (dd (l.take s)) := by
    rw [List.getD_eq_getElem?_getD, nrm_get hgt, hsame]; rfl
   rw [show (List.map (fun k => ix k (dd (List.take s l))) (List.take s l)) = nrm (l.take s) from rfl, this]
  ·have hm : l[s] ∉ l.take s := by
    intro hm
    obtain ⟨i, hi⟩ := List.getElem?_of_mem hm
    have his : i < s := by have := (List.getElem?_eq_some_iff.1 hi).1; rw [List.length_take] at this; omega
    rw [List.getElem?_take_of_lt his] at hi
    have := (he _ _ _ _ hg hi).2 rfl
    rw [f2 i (by omega)] at this; cases this
   rw [if_neg hf, dd_new_snoc hm]
   simp only [nrm, List.map_append, List.map_cons, List.map_nil, dd_new_snoc hm, List.length_append, List.length_cons, List.length_nil]
   congr 1
   ·congr 1
    ·apply List.map_congr_left
     intro a ha
     rw [ix_append_left (mem_dd.2 ha)]
    ·rw [ix_append_right (fun hh => hm (mem_dd.1 hh))]; simp [ix]
end
theorem foldl_add01 : ∀ (l : List Nat), (∀ x ∈ l, x ≤ 1) → l.foldl add [0, 1] = [0, 1] ∧ (l.foldl add [0] = [0] ∧ 1 ∉ l ∨ l.foldl add [0] = [0, 1] ∧ 1 ∈ l)
 | [], _ => by simp
 | x :: l, h => by
  obtain ⟨h1, h2⟩ := foldl_add01 l fun y hy => h y (by simp [hy])
  have hx := h x (by simp)
  have : x = 0 ∨ x = 1 := by omega
  rcases this with rfl | rfl
  ·refine ⟨?_, ?_⟩
   ·rw [List.foldl_cons, show add [0, 1] 0 = [0, 1] by decide]; exact h1
   ·rw [List.foldl_cons, show add [0] 0 = [0] by decide]
    rcases h2 with ⟨a, b⟩ | ⟨a, b⟩
    ·exact .inl ⟨a, by simp [b]⟩
    ·exact .inr ⟨a, by simp [b]⟩
  ·refine ⟨?_, ?_⟩
   ·rw [List.foldl_cons, show add [0, 1] 1 = [0, 1] by decide]; exact h1
   ·rw [List.foldl_cons, show add [0] 1 = [0, 1] by decide]
    exact .inr ⟨h1, by simp⟩
theorem nrm01 {l : List Nat} (h0 : l.headD 0 = 0) (h : ∀ x ∈ l, x ≤ 1) : nrm l = l := by
 cases l with
 | nil => rfl
 | cons a l =>
  simp at h0
  subst h0
  have e : dd (0 :: l) = l.foldl add [0] := by simp [dd, add]
  have h2 := (foldl_add01 l fun y hy => h y (by simp [hy])).2
  rw [nrm, e]
  conv => rhs; rw [← List.map_id (0 :: l)]
  apply List.map_congr_left
  intro x hx
  have hx1 := h x hx
  have : x = 0 ∨ x = 1 := by omega
  rcases this with rfl | rfl
  ·rcases h2 with ⟨a, b⟩ | ⟨a, b⟩ <;> rw [a] <;> decide
  ·rcases h2 with ⟨a, b⟩ | ⟨a, b⟩
   ·simp at hx; exact absurd hx b
   ·rw [a]; decide
theorem itF_can (d : DFA) : ∀ k, nrm (itF d k) = itF d k
 | 0 => by
  refine nrm01 ?_ ?_
  ·rw [itF]
   cases e : (beginF d) with
   | nil => rfl
   | cons a l =>
    have : (beginF d)[0]? = some a := by rw [e]; rfl
    have hn : 0 < d.next.length := by
     have : (beginF d).length = d.next.length := by simp [beginF]
     rw [e] at this; simp at this; omega
    rw [beginF_get hn] at this
    simpa using this.symm
  ·intro x hx
   obtain ⟨s, _, rfl⟩ := List.mem_map.1 hx
   split <;> omega
 | k + 1 => by rw [itF, refineF_nrm, nrm_nrm]
theorem dif_mono {d : DFA} {k m s t : Nat} (h : k ≤ m) (hd : dif d k s t = true) : dif d m s t = true := by
 obtain ⟨u, h1, h2, h3⟩ := (dif_iff d k s t).1 hd
 exact (dif_iff d m s t).2 ⟨u, h1, by omega, h3⟩
theorem itF_get {d : DFA} {k s : Nat} (hs : s < d.next.length) : (itF d k)[s]? = some ((itF d k).getD s 0) := by
 have : s < (itF d k).length := by rw [itF_length]; exact hs
 rw [List.getD_eq_getElem?_getD, List.getElem?_eq_getElem this]; rfl
def clsN (d : DFA) (k : Nat) : Nat := (dd (itF d k)).length
theorem clsN_step {d : DFA} (hv : Val d) (k : Nat) : clsN d k ≤ clsN d (k + 1) ∧ (clsN d k = clsN d (k + 1) → itF d (k + 1) = itF d k) := by
 have hl : (itF d (k + 1)).length = (itF d k).length := by rw [itF_length, itF_length]
 have at_ : ∀ p ∈ (itF d (k + 1)).zip (itF d k), ∃ s, s < d.next.length ∧ (itF d (k + 1)).getD s 0 = p.1 ∧ (itF d k).getD s 0 = p.2 := fun p hp => by
  obtain ⟨i, a1, a2⟩ := zip_get hl hp
  refine ⟨i, ?_, getD_of a1, getD_of a2⟩
  have := (List.getElem?_eq_some_iff.1 a2).1
  rwa [itF_length] at this
 have h := dd_finer ((itF d (k + 1)).zip (itF d k)) fun p hp q hq e => by
  obtain ⟨s, hs, a1, a2⟩ := at_ p hp
  obtain ⟨t, ht, b1, b2⟩ := at_ q hq
  rw [← a1, ← b1, itF_iff hv _ s t hs ht] at e
  rw [← a2, ← b2, itF_iff hv _ s t hs ht, ← Bool.not_eq_true]
  intro hh
  rw [dif_mono (Nat.le_succ k) hh] at e; cases e
 rw [(zip_ends hl).1, (zip_ends hl).2] at h
 refine ⟨h.1, fun e => ?_⟩
 have h2 := h.2 e
 rw [← itF_can d (k + 1), ← itF_can d k]
 refine (nrm_congr hl ?_).1
 intro i j a b a' b' hi hj hi' hj'
 have hm : ∀ {i a a'}, (itF d (k + 1))[i]? = some a → (itF d k)[i]? = some a' → (a, a') ∈ (itF d (k + 1)).zip (itF d k) := fun {i a a'} x y => by
  apply List.mem_of_getElem? (i := i)
  rw [List.getElem?_zip_eq_some]
  exact ⟨x, y⟩
 refine ⟨fun e => ?_, h2 _ (hm hi hi') _ (hm hj hj')⟩
 have hin : i < d.next.length := by have := (List.getElem?_eq_some_iff.1 hi').1; rwa [itF_length] at this
 have hjn : j < d.next.length := by have := (List.getElem?_eq_some_iff.1 hj').1; rwa [itF_length] at this
 rw [← getD_of hi, ← getD_of hj, itF_iff hv _ i j hin hjn] at e
 rw [← getD_of hi', ← getD_of hj', itF_iff hv _ i j hin hjn, ← Bool.not_eq_true]
 intro hh
 rw [dif_mono (Nat.le_succ k) hh] at e; cases e
theorem clsN_le (d : DFA) (k : Nat) : clsN d k ≤ d.next.length := by
 have := dd_length (itF d k)
 rw [itF_length] at this; exact this
theorem clsN_pos {d : DFA} (hv : Val d) (k : Nat) : 0 < clsN d k := by
 have h : (itF d k).getD 0 0 ∈ dd (itF d k) := mem_dd.2 (List.mem_of_getElem? (itF_get hv.n0))
 exact List.length_pos_of_mem h
theorem itF_grow {d : DFA} (hv : Val d) : ∀ k, (∃ j, j < k ∧ itF d (j + 1) = itF d j) ∨ k + 1 ≤ clsN d k
 | 0 => .inr (clsN_pos hv 0)
 | k + 1 => by
  rcases itF_grow hv k with ⟨j, hj, h⟩ | h
  ·exact .inl ⟨j, by omega, h⟩
  ·obtain ⟨h1, h2⟩ := clsN_step hv k
   by_cases e : clsN d k = clsN d (k + 1)
   ·exact .inl ⟨k, by omega, h2 e⟩
   ·exact .inr (by omega)
theorem itF_stab {d : DFA} (hv : Val d) : ∀ m, d.next.length ≤ m → itF d m = itF d d.next.length := by
 intro m hm
 rcases itF_grow hv d.next.length with ⟨j, hj, h⟩ | h
 ·have hs : refineF d (itF d j) = itF d j := by rw [← itF]; exact h
  rw [itF_stable hs m (by omega), itF_stable hs d.next.length (by omega)]
 ·have := clsN_le d d.next.length; omega
theorem cls_iff {d : DFA} (hv : Val d) {s t : Nat} (hs : s < d.next.length) (ht : t < d.next.length) :
  (itF d d.next.length).getD s 0 = (itF d d.next.length).getD t 0 ↔ ∀ u, Wd d u → ¬ dst d s t u := by
 constructor
 ·intro h u hu hd
  have h2 : (itF d (max u.length d.next.length)).getD s 0 = (itF d (max u.length d.next.length)).getD t 0 := by rw [itF_stab hv _ (by omega)]; exact h
  rw [itF_iff hv _ s t hs ht, ← Bool.not_eq_true] at h2
  exact h2 ((dif_iff d _ s t).2 ⟨u, hu, by omega, hd⟩)
 ·intro h
  rw [itF_iff hv _ s t hs ht, ← Bool.not_eq_true]
  intro hh
  obtain ⟨u, h1, _, h3⟩ := (dif_iff d _ s t).1 hh
  exact h u h1 h3
theorem labN_itF {d : DFA} (hv : Val d) (k : Nat) : (labN (fun s t => !dif d k s t) d.next.length).1 = itF d k := by
 have h := labN_nrm (e := fun s t => !dif d k s t) (l := itF d k) (fun s t a b hs ht => by
  have hs' : s < d.next.length := by have := (List.getElem?_eq_some_iff.1 hs).1; rwa [itF_length] at this
  have ht' : t < d.next.length := by have := (List.getElem?_eq_some_iff.1 ht).1; rwa [itF_length] at this
  rw [← getD_of hs, ← getD_of ht, itF_iff hv k s t hs' ht']; simp) d.next.length (by rw [itF_length]; exact Nat.le_refl _)
 rw [h]
 show nrm ((itF d k).take d.next.length) = _
 rw [List.take_of_length_le (by rw [itF_length]; exact Nat.le_refl _), itF_can]
theorem quoN_cls {d : DFA} {α : Type} [DecidableEq α] {l : List α} {cs : List Nat} (hl : l.length = d.next.length) (hcs : cs = nrm l) : ∀ k, k ≤ d.next.length → (quoN d cs k).1.length = (dd (l.take k)).length
 | 0, _ => by simp [quoN, dd]
 | k + 1, hk => by
  have hk' : k < l.length := by omega
  have ih := quoN_cls hl hcs k (by omega)
  have hg := List.getElem?_eq_getElem hk'
  have hc : cs.getD k 0 = ix l[k] (dd l) := by rw [hcs]; exact getD_of (nrm_get hg)
  have hp : dd (l.take k) <+: dd l := by
   conv => rhs; rw [← List.take_append_drop k l]
   rw [dd_append]; exact foldl_prefix _ _
  rw [quoN, ih, hc, List.take_succ_eq_append_getElem hk']
  by_cases hm : l[k] ∈ l.take k
  ·rw [dd_mem_snoc hm, ix_prefix hp (mem_dd.2 hm), if_pos (ix_lt (mem_dd.2 hm)), ih]
  ·have hp2 : dd (l.take k) ++ [l[k]] <+: dd l := by
    rw [← dd_new_snoc hm, ← List.take_succ_eq_append_getElem hk']
    conv => rhs; rw [← List.take_append_drop (k + 1) l]
    rw [dd_append]; exact foldl_prefix _ _
   have e : ix l[k] (dd l) = (dd (l.take k)).length := by
    rw [ix_prefix hp2 (by simp), ix_append_right (fun hh => hm (mem_dd.1 hh))]; simp [ix]
   rw [dd_new_snoc hm, e, if_neg (Nat.lt_irrefl _)]
   simp [ih]
theorem quoN_rows {d : DFA} (cs : List Nat) : ∀ k, ∀ r ∈ (quoN d cs k).1, ∃ s, s < k ∧ r = (rowK cs (d.next.getD s [])).map fun c : Nat => (c : Int)
 | 0, r, h => by simp [quoN] at h
 | k + 1, r, h => by
  rw [quoN] at h
  split at h
  ·obtain ⟨s, hs, e⟩ := quoN_rows cs k r h; exact ⟨s, by omega, e⟩
  ·rcases List.mem_append.1 h with h | h
   ·obtain ⟨s, hs, e⟩ := quoN_rows cs k r h; exact ⟨s, by omega, e⟩
   ·exact ⟨k, by omega, List.mem_singleton.1 h⟩
theorem quo_len {d : DFA} {cs : List Nat} (hl : cs.length = d.next.length) (hc : nrm cs = cs) : (quo d cs).next.length = (dd cs).length := by
 show (quoN d cs d.next.length).1.length = _
 rw [quoN_cls (l := cs) hl hc.symm _ (Nat.le_refl _), List.take_of_length_le (by omega)]
theorem can_lt {cs : List Nat} (hc : nrm cs = cs) {i c : Nat} (h : cs[i]? = some c) : c < (dd cs).length := by
 have h2 := nrm_get h
 rw [hc, h] at h2
 have := ix_lt (mem_dd.2 (List.mem_of_getElem? h))
 have e := Option.some.inj h2
 omega
theorem quo_val {d : DFA} (hv : Val d) {cs : List Nat} (hl : cs.length = d.next.length) (hc : nrm cs = cs) : Val (quo d cs) := by
 have hq := quo_len hl hc
 have hlt : ∀ i, i < d.next.length → cs.getD i 0 < (dd cs).length := fun i hi => by
  have hi' : i < cs.length := by omega
  have := List.getElem?_eq_getElem hi'
  rw [getD_of this]; exact can_lt hc this
 have h1 := (quoN_len d cs d.next.length)
 refine ⟨hv.v0, hv.v6, ?_, ?_, ?_, ?_, ?_, ?_⟩
 ·rw [hq]; have := hlt 0 hv.n0; omega
 ·exact h1.1.symm
 ·exact Int.natCast_nonneg _
 ·rw [hq]
  show ((cs.getD d.start.toNat 0 : Nat) : Int) < _
  have := hlt d.start.toNat (by have := hv.s0; have := hv.s1; omega)
  omega
 ·intro r hr
  obtain ⟨s, hs, rfl⟩ := quoN_rows cs _ r hr
  rw [List.length_map, rowK_length]
  simp [hs]
  exact hv.len _ (List.getElem_mem hs)
 ·intro r hr x hx
  rw [hq]
  obtain ⟨s, hs, rfl⟩ := quoN_rows cs _ r hr
  obtain ⟨c, hc', rfl⟩ := List.mem_map.1 hx
  refine ⟨Int.natCast_nonneg _, ?_⟩
  obtain ⟨to, hto, rfl⟩ := List.mem_map.1 hc'
  simp [hs] at hto
  have := hv.ok _ (List.getElem_mem hs) to hto
  have := hlt to.toNat (by omega)
  omega
theorem quo_valid {d : DFA} (hv : Valid d) {cs : List Nat} (hl : cs.length = d.next.length) (hc : nrm cs = cs) : Valid (quo d cs) :=
 ⟨quo_val hv hl hc, by have := (quoN_len d cs d.next.length).2; have := hv.n4; show (quoN d cs d.next.length).1.length ≤ _; omega⟩
theorem quo_itV {d : DFA} (hv : Val d) (k : Nat) : Val (quo d (itF d k)) ∧ (quo d (itF d k)).next.length ≤ d.next.length :=
 ⟨quo_val hv (itF_length d k) (itF_can d k), (quoN_len d _ _).2⟩
theorem quo_itF {d : DFA} (hv : Valid d) (k : Nat) : Valid (quo d (itF d k)) ∧ (quo d (itF d k)).next.length ≤ d.next.length :=
 ⟨quo_valid hv (itF_length d k) (itF_can d k), (quoN_len d _ _).2⟩
end Go.Lx


namespace Go.Lx
open Go.RowKit
structure BRec where
 b : Option Addr
 c : Nat
 xs : List Bool
def BRec.val (q : BRec) : Value := .slice q.b q.xs.length q.c
def BRec.itm (E : TypeId) (q : BRec) : Item := rowI q.b q.c E 1 (bools q.xs)
abbrev bvals (qs : List BRec) : List Value := qs.map BRec.val
abbrev bitms (E : TypeId) (qs : List BRec) : List Item := qs.map (BRec.itm E)
def fillB (f : Nat → Bool) (n t : Nat) : List Bool := (List.range n).map fun i => if i < t then f i else false
theorem fillB_length (f : Nat → Bool) (n t : Nat) : (fillB f n t).length = n := by simp [fillB]
theorem fillB_get {f : Nat → Bool} {n t i : Nat} (h : i < n) : (fillB f n t)[i]? = some (if i < t then f i else false) := by simp [fillB, h]
theorem fillB_zero (f : Nat → Bool) (n : Nat) : fillB f n 0 = List.replicate n false := by
 apply List.ext_getElem?
 intro i
 by_cases h : i < n
 ·rw [fillB_get h]; simp [h]
 ·rw [List.getElem?_eq_none (by rw [fillB_length]; omega), List.getElem?_eq_none (by simp; omega)]
theorem fillB_set {f : Nat → Bool} {n t : Nat} {v : Bool} (h : t < n) (hv : v = f t) : (fillB f n t).set t v = fillB f n (t + 1) := by
 subst hv
 apply List.ext_getElem?
 intro i
 by_cases hi : i < n
 ·rw [fillB_get hi]
  by_cases e : i = t
  ·subst e; rw [List.getElem?_set_self (by rw [fillB_length]; exact hi)]; simp
  ·rw [List.getElem?_set_ne (fun h => e h.symm), fillB_get hi]
   congr 1
   by_cases h2 : i < t
   ·rw [if_pos h2, if_pos (by omega)]
   ·rw [if_neg h2, if_neg (by omega)]
 ·rw [List.getElem?_eq_none (by rw [List.length_set, fillB_length]; omega), List.getElem?_eq_none (by rw [fillB_length]; omega)]
theorem fillB_full (f : Nat → Bool) (n : Nat) : fillB f n n = (List.range n).map f := by
 apply List.map_congr_left
 intro i hi
 rw [if_pos (List.mem_range.1 hi)]
def difRow (d : DFA) (k s : Nat) : List Bool := (List.range d.next.length).map (dif d k s)
def MatOk (d : DFA) (k m : Nat) (qs : List BRec) : Prop := qs.map BRec.xs = (List.range m).map (difRow d k)
theorem difRow_length (d : DFA) (k s : Nat) : (difRow d k s).length = d.next.length := by simp [difRow]
theorem MatOk.len {d : DFA} {k m : Nat} {qs : List BRec} (h : MatOk d k m qs) : qs.length = m := by
 have := congrArg List.length h
 simpa using this
theorem MatOk.get {d : DFA} {k m : Nat} {qs : List BRec} (h : MatOk d k m qs) {a : Nat} (ha : a < m) :
  ∃ q, q ∈ qs ∧ (bvals qs)[a]? = some (.slice q.b d.next.length q.c) ∧ (bools q.xs).length = d.next.length ∧ ∀ t, t < d.next.length → (bools q.xs)[t]? = some (.bool (dif d k a t)) := by
 have hl := h.len
 have ha' : a < qs.length := by omega
 have e : qs[a].xs = difRow d k a := by
  have := congrArg (fun l => l[a]?) h
  simp only [List.getElem?_map, List.getElem?_eq_getElem ha', Option.map_some, List.getElem?_range ha] at this
  exact Option.some.inj this
 refine ⟨qs[a], List.getElem_mem ha', ?_, ?_, ?_⟩
 ·rw [List.getElem?_map, List.getElem?_eq_getElem ha', Option.map_some, BRec.val, e, difRow_length]
 ·rw [List.length_map, e, difRow_length]
 ·intro t ht
  rw [List.getElem?_map, e, difRow, List.getElem?_map, List.getElem?_range ht]; rfl
theorem MatOk.snoc {d : DFA} {k m : Nat} {qs : List BRec} (h : MatOk d k m qs) {b : Option Addr} {c : Nat} : MatOk d k (m + 1) (qs ++ [⟨b, c, difRow d k m⟩]) := by
 unfold MatOk at *
 rw [List.map_append, h, List.range_succ, List.map_append]; rfl
theorem hole_set {l : List Value} {s n : Nat} {z v : Value} (hl : l.length = s) (hs : s < n) : (l ++ List.replicate (n - s) z).set s v = l ++ v :: List.replicate (n - (s + 1)) z := by
 rw [List.set_append_right _ _ (by omega), hl, Nat.sub_self, show n - s = (n - (s + 1)) + 1 by omega, List.replicate_succ]; rfl
theorem hole_get {l r : List Value} {s : Nat} {v : Value} (hl : l.length = s) : (l ++ v :: r)[s]? = some v := by
 rw [List.getElem?_append_right (by omega), hl, Nat.sub_self]; rfl
def labD (d : DFA) (k s : Nat) : List Nat × Nat := labN (fun s t => !dif d k s t) s
theorem labD_len (d : DFA) (k : Nat) : ∀ s, (labD d k s).1.length = s ∧ (labD d k s).2 ≤ s
 | 0 => ⟨rfl, Nat.le_refl _⟩
 | s + 1 => by
  obtain ⟨h1, h2⟩ := labD_len d k s
  unfold labD at *
  rw [labN]
  split
  ·exact ⟨by simp [h1], by simp only; omega⟩
  ·exact ⟨by simp [h1], by simp only; omega⟩
theorem labD_old {d : DFA} {k s t : Nat} (hts : t < s) (h : ∀ t', t' < t → dif d k s t' = true) (ht : dif d k s t = false) : labD d k (s + 1) = ((labD d k s).1 ++ [(labD d k s).1.getD t 0], (labD d k s).2) := by
 have hf : first ((fun s t => !dif d k s t) s) s = t := first_eq (by omega) (fun _ => by simp [ht]) (fun t' h' => by simp [h t' h'])
 unfold labD
 rw [labN, hf, if_pos hts]
theorem labD_new {d : DFA} {k s : Nat} (h : ∀ t', t' < s → dif d k s t' = true) : labD d k (s + 1) = ((labD d k s).1 ++ [(labD d k s).2], (labD d k s).2 + 1) := by
 have hf : first ((fun s t => !dif d k s t) s) s = s := first_eq (Nat.le_refl _) (fun h => absurd h (by omega)) (fun t' h' => by simp [h t' h'])
 unfold labD
 rw [labN, hf, if_neg (by omega)]
theorem labD_itF {d : DFA} (hv : Val d) (k : Nat) : (labD d (min k d.next.length) d.next.length).1 = itF d k := by
 show (labN _ _).1 = _
 rw [labN_itF hv]
 by_cases h : k ≤ d.next.length
 ·rw [Nat.min_eq_left h]
 ·rw [Nat.min_eq_right (by omega), itF_stab hv k (by omega)]
theorem any_snoc (f : Nat → Bool) (x : Nat) : (List.range (x + 1)).any f = ((List.range x).any f || f x) := by
 rw [List.range_succ, List.any_append]; simp
end Go.Lx


namespace Go.Lx
open Go.RowKit
theorem foldl_add_ok {n : Nat} : ∀ (l ks : List Nat), ks.Nodup → (∀ k ∈ ks, k < n) → (∀ k ∈ l, k < n) → (l.foldl add ks).Nodup ∧ ∀ k ∈ l.foldl add ks, k < n
 | [], ks, h1, h2, _ => ⟨h1, h2⟩
 | a :: l, ks, h1, h2, h3 => foldl_add_ok l (add ks a) (add_nodup h1) (fun k hk => (mem_add.1 hk).elim (h2 k) fun e => e ▸ h3 a (by simp)) fun k hk => h3 k (by simp [hk])
theorem sucs_lt {d : DFA} (hv : Val d) {o : Nat} (ho : o < d.next.length) : ∀ t ∈ sucs d o, t < d.next.length := fun t ht => by
 obtain ⟨x, hx, rfl⟩ := List.mem_map.1 ht
 exact (hv.toN_lt ho (List.mem_range.1 hx)).1
theorem bfsN_ok {d : DFA} (hv : Val d) : ∀ i, (bfsN d i).Nodup ∧ ∀ o ∈ bfsN d i, o < d.next.length
 | 0 => by
  refine ⟨by simp [bfsN], fun o ho => ?_⟩
  simp only [bfsN, List.mem_singleton] at ho
  have := hv.s0; have := hv.s1; omega
 | i + 1 => by
  obtain ⟨h1, h2⟩ := bfsN_ok hv i
  rw [bfsN]
  split
  ·rename_i hi
   refine foldl_add_ok _ _ h1 h2 (sucs_lt hv (h2 _ ?_))
   rw [List.getD_eq_getElem?_getD, List.getElem?_eq_getElem hi]
   exact List.getElem_mem hi
  ·exact ⟨h1, h2⟩
theorem bfsN_len {d : DFA} (hv : Val d) (i : Nat) : (bfsN d i).length ≤ d.next.length := nodup_bound (bfsN_ok hv i).1 (bfsN_ok hv i).2
theorem bfsN_succ {d : DFA} {i o : Nat} (h : (bfsN d i)[i]? = some o) : bfsN d (i + 1) = (sucs d o).foldl add (bfsN d i) := by
 have hi := (List.getElem?_eq_some_iff.1 h).1
 rw [bfsN, if_pos hi, List.getD_eq_getElem?_getD, h]; rfl
def bfsM (d : DFA) (i o x : Nat) : List Nat := ((List.range x).map (toN d o)).foldl add (bfsN d i)
theorem bfsM_step (d : DFA) (i o x : Nat) : bfsM d i o (x + 1) = add (bfsM d i o x) (toN d o x) := foldl_add_snoc _ _ _
theorem bfsM_len {d : DFA} (hv : Val d) {i o x : Nat} (ho : o < d.next.length) (hx : x ≤ 2 ^ d.vars.toNat) : (bfsM d i o x).length ≤ d.next.length ∧ (bfsN d i).length ≤ (bfsM d i o x).length := by
 obtain ⟨h1, h2⟩ := bfsN_ok hv i
 obtain ⟨h3, h4⟩ := foldl_add_ok ((List.range x).map (toN d o)) _ h1 h2 (fun t ht => by
  obtain ⟨y, hy, rfl⟩ := List.mem_map.1 ht
  exact (hv.toN_lt ho (by have := List.mem_range.1 hy; omega)).1)
 exact ⟨nodup_bound h3 h4, (foldl_prefix _ _).length_le⟩
theorem order_len {d : DFA} (hv : Val d) : (order d).length ≤ d.next.length := bfsN_len hv _
theorem order_lt {d : DFA} (hv : Val d) : ∀ o ∈ order d, o < d.next.length := (bfsN_ok hv _).2
theorem order_stop {d : DFA} (hv : Val d) : ∃ N, N ≤ d.next.length ∧ (bfsN d N).length = N ∧ (∀ j, j < N → j < (bfsN d j).length) := by
 have step : ∀ k, (∃ N, N ≤ k ∧ (bfsN d N).length = N ∧ ∀ j, j < N → j < (bfsN d j).length) ∨ ((∀ j, j < k → j < (bfsN d j).length) ∧ k ≤ (bfsN d k).length) := by
  intro k
  induction k with
  | zero => exact .inr ⟨fun j hj => absurd hj (by omega), Nat.zero_le _⟩
  | succ k ih =>
   rcases ih with ⟨N, h1, h2⟩ | ⟨h1, h2⟩
   ·exact .inl ⟨N, by omega, h2⟩
   ·by_cases e : (bfsN d k).length = k
    ·exact .inl ⟨k, by omega, e, h1⟩
    ·refine .inr ⟨fun j hj => ?_, ?_⟩
     ·by_cases ej : j = k
      ·subst ej; omega
      ·exact h1 j (by omega)
     ·have hi : k < (bfsN d k).length := by omega
      rw [bfsN_succ (List.getElem?_eq_getElem hi)]
      have := (foldl_prefix (sucs d (bfsN d k)[k]) (bfsN d k)).length_le
      omega
 rcases step d.next.length with h | ⟨h1, h2⟩
 ·exact h
 ·exact ⟨d.next.length, Nat.le_refl _, by have := bfsN_len hv d.next.length; omega, h1⟩
theorem bfsN_prefix (d : DFA) : ∀ (i m : Nat), i ≤ m → bfsN d i <+: bfsN d m := by
 intro i m h
 induction h with
 | refl => exact List.prefix_refl _
 | @step m _ ih =>
  refine ih.trans ?_
  rw [bfsN]
  split
  ·exact foldl_prefix _ _
  ·exact List.prefix_refl _
theorem order_closed {d : DFA} (hv : Val d) : ∀ o ∈ order d, ∀ t ∈ sucs d o, t ∈ order d := by
 obtain ⟨N, hN, hl, hj⟩ := order_stop hv
 have e := order_eq hl hN
 intro o ho t ht
 rw [e] at ho ⊢
 obtain ⟨j, hjo⟩ := List.getElem?_of_mem ho
 have hjl := (List.getElem?_eq_some_iff.1 hjo).1
 have hjj := hj j (by omega)
 have hp := bfsN_prefix d j N (by omega)
 have hjo' : (bfsN d j)[j]? = some o := by
  obtain ⟨r, hr⟩ := hp
  rw [← hr, List.getElem?_append_left hjj] at hjo
  exact hjo
 have hp2 := bfsN_prefix d (j + 1) N (by omega)
 refine hp2.subset ?_
 rw [bfsN_succ hjo']
 exact (mem_foldl_add _ _).2 (.inr ht)
theorem ix_le {α : Type} [DecidableEq α] {x : α} : ∀ {ks : List α} {k : Nat}, ks[k]? = some x → ix x ks ≤ k
 | [], k, h => by simp at h
 | a :: ks, k, h => by
  simp only [ix]
  split
  ·omega
  ·rename_i hne
   cases k with
   | zero => simp at h; exact absurd h.symm hne
   | succ k => have := ix_le (ks := ks) (k := k) (by simpa using h); omega
theorem sucs_length (d : DFA) (o : Nat) : (sucs d o).length = 2 ^ d.vars.toNat := by simp [sucs]
theorem sucs_get {d : DFA} {o x : Nat} (h : x < 2 ^ d.vars.toNat) : (sucs d o)[x]? = some (toN d o x) := by simp [sucs, h]
def renRow (d : DFA) (o : Nat) : List Nat := (sucs d o).map fun t => ix t (order d)
theorem renRow_length (d : DFA) (o : Nat) : (renRow d o).length = 2 ^ d.vars.toNat := by simp [renRow, sucs]
theorem renRow_step {d : DFA} {o x : Nat} (h : x < 2 ^ d.vars.toNat) : (renRow d o).take (x + 1) = (renRow d o).take x ++ [ix (toN d o x) (order d)] := by
 rw [List.take_succ_eq_append_getElem (by rw [renRow_length]; exact h)]
 congr 2
 have := sucs_get (d := d) (o := o) h
 have h2 : (renRow d o)[x]? = some (ix (toN d o x) (order d)) := by rw [renRow, List.getElem?_map, this]; rfl
 rw [List.getElem?_eq_getElem (by rw [renRow_length]; exact h)] at h2
 exact Option.some.inj h2
theorem renum_next (d : DFA) : (renum d).next = (order d).map fun o => (renRow d o).map fun x : Nat => (x : Int) := by
 simp [renum, renRow, Function.comp_def]
end Go.Lx


namespace Go.Lx
theorem dif_stab {d : DFA} (hv : Val d) {s t : Nat} (hs : s < d.next.length) (ht : t < d.next.length) (m : Nat) (h : ∀ j, j ≤ d.next.length → dif d j s t = false) : dif d m s t = false := by
 by_cases hm : m ≤ d.next.length
 ·exact h m hm
 ·have h1 := (itF_iff hv d.next.length s t hs ht).2 (h _ (Nat.le_refl _))
  rw [← itF_iff hv m s t hs ht, itF_stab hv m (by omega)]
  exact h1
theorem tell_none {d : DFA} (hv : Val d) {s t : Nat} (hs : s < d.next.length) (ht : t < d.next.length) (h : ∀ j, j ≤ d.next.length → dif d j s t = false) : Tell d s t none := by
 intro u hu hd
 have := dif_stab hv hs ht u.length h
 rw [(dif_iff d u.length s t).2 ⟨u, hu, Nat.le_refl _, hd⟩] at this
 cases this
end Go.Lx


namespace Go.Lx
open Go.RowKit
theorem CallT.addNil {P : Program} {base : World} {f : FuncId} {args : List Value} {O : List Item} {R : Value → List Item → Prop} (E : TypeId) (k : Nat) (h : CallT P base f args O R) : CallT P base f args O (fun v O' => ∃ O2, O' = rowI none 0 E k [] :: O2 ∧ R v O2) :=
 fun w M hI => (h w M hI).mono fun _ _ ⟨v, O', h1, h2, h3⟩ => ⟨v, _, h1, h2.nilRow E k, O', rfl, h3⟩
theorem CallT.nilOr {P : Program} {base : World} {f : FuncId} {args : List Value} {O : List Item} {R : Value → List Item → Prop} (E : TypeId) (k : Nat) (h : CallT P base f args O R) : CallT P base f args O (fun v O' => ∃ O2, ((O2 ≠ [] → O' = O2) ∧ (O2 = [] → O' = [rowI none 0 E k []])) ∧ R v O2) :=
 fun w M hI => (h w M hI).mono fun _ _ ⟨v, O', h1, h2, h3⟩ => by
  cases O' with
  | nil => exact ⟨v, _, h1, h2.nilRow E k, [], ⟨fun h => absurd rfl h, fun _ => rfl⟩, h3⟩
  | cons a l => exact ⟨v, _, h1, h2, a :: l, ⟨fun _ => rfl, fun h => by cases h⟩, h3⟩
theorem CallT.none {P : Program} {base : World} {f : FuncId} {args : List Value} {R : Value → List Item → Prop} (h : CallT P base f args [] R) : CallT P base f args [] (fun v O' => O' = [] ∧ ∃ O2, R v O2) :=
 fun w M hI => (h w M hI).mono fun _ _ ⟨v, O', h1, h2, h3⟩ => ⟨v, [], h1, by simpa using h2.subp (Sub.of (List.sublist_append_right O' M)), rfl, O', h3⟩
def minD (d : DFA) : DFA := renum (quo d (itF d d.next.length))
def minV (d : DFA) : DFA := if checkD d = 0 then minD d else ⟨0, 0, [], []⟩
def eD (d : DFA) (s t : Int) : Nat := if checkD d ≠ 0 then checkD d else if s < 0 ∨ t < 0 ∨ (d.next.length : Int) ≤ s ∨ (d.next.length : Int) ≤ t then 8 else 0
def TellA (d : DFA) (s t : Int) (res : Option (List Nat)) : Prop := if eD d s t = 0 then Tell d s.toNat t.toNat res else res = none
theorem eD_zero {d : DFA} {s t : Int} : eD d s t = 0 ↔ Valid d ∧ 0 ≤ s ∧ s < (d.next.length : Int) ∧ 0 ≤ t ∧ t < (d.next.length : Int) := by
 unfold eD
 by_cases h : checkD d = 0
 ·rw [if_neg (by simp [h])]
  by_cases h2 : s < 0 ∨ t < 0 ∨ (d.next.length : Int) ≤ s ∨ (d.next.length : Int) ≤ t
  ·rw [if_pos h2]; exact ⟨fun h => absurd h (by decide), fun h => by omega⟩
  ·rw [if_neg h2]; exact ⟨fun _ => ⟨checkD_zero.1 h, by omega, by omega, by omega, by omega⟩, fun _ => rfl⟩
 ·rw [if_pos h]; exact ⟨fun e => absurd e h, fun hh => absurd (checkD_zero.2 hh.1) h⟩
theorem TellA.unique {d : DFA} {s t : Int} {a b : Option (List Nat)} (ha : TellA d s t a) (hb : TellA d s t b) : a = b := by
 unfold TellA at *
 by_cases h : eD d s t = 0
 ·rw [if_pos h] at ha hb
  exact Tell.unique (eD_zero.1 h).1 ha hb
 ·rw [if_neg h] at ha hb
  rw [ha, hb]
theorem TellA.none {d : DFA} {s t : Int} {a : Option (List Nat)} (h : eD d s t ≠ 0) (ha : TellA d s t a) : a = .none := by
 unfold TellA at ha; rwa [if_neg h] at ha
end Go.Lx


/- More operations that leave the world alone; what holds at a loop's head. -/
import Derived.Test.YthfemndklplpbaaDoorCoreD
set_option linter.unusedSectionVars false
set_option linter.unusedSimpArgs false
set_option linter.unusedVariables false
set_option linter.unnecessarySimpa false
namespace Go.Lx
open Go.RowKit

/-- What some slots hold. -/
def Heads : List (Nat × Value) → Env → Prop
  | [], _ => True
  | q :: L, ρ => ρ q.1 = q.2 ∧ Heads L ρ

def heads (L : List (Nat × Value)) (ρ : Env) : Env := L.foldr (fun q r => upd r q.1 q.2) ρ

theorem heads_self {ρ : Env} : ∀ {L : List (Nat × Value)}, Heads L ρ → heads L ρ = ρ
  | [], _ => rfl
  | q :: L, h => by
    have ih := heads_self h.2
    show upd (heads L ρ) q.1 q.2 = ρ
    rw [ih]
    funext t
    unfold upd
    cases e : Nat.beq t q.1 with
    | false => rfl
    | true => rw [Nat.eq_of_beq_eq_true e]; exact h.1.symm

/-- An environment of which some slots are known, in a form that can be looked into. -/
theorem Heads.elim {L : List (Nat × Value)} {ρ : Env} (h : Heads L ρ) : ∃ ρ0, ρ = heads L ρ0 := ⟨ρ, (heads_self h).symm⟩

abbrev ints (xs : List Int) : List Value := xs.map (Value.int .i64)
abbrev nats (xs : List Nat) : List Value := xs.map fun x : Nat => Value.int .i64 (x : Int)
abbrev bools (xs : List Bool) : List Value := xs.map Value.bool
abbrev byts (xs : List Nat) : List Value := xs.map fun x : Nat => Value.int .u8 (x : Int)

theorem ints_get {xs : List Int} {k : Nat} (h : k < xs.length) : (ints xs)[k]? = some (.int .i64 xs[k]) := by simp [h]
theorem nats_get {xs : List Nat} {k : Nat} (h : k < xs.length) : (nats xs)[k]? = some (.int .i64 ((xs[k] : Nat) : Int)) := by simp [h]
theorem bools_get {xs : List Bool} {k : Nat} (h : k < xs.length) : (bools xs)[k]? = some (.bool xs[k]) := by simp [h]
theorem byts_get {xs : List Nat} {k : Nat} (h : k < xs.length) : (byts xs)[k]? = some (.int .u8 ((xs[k] : Nat) : Int)) := by simp [h]

theorem ints_one (xs : List Int) : ((ints xs).all oneB) = true := by simp [oneB]
theorem nats_one (xs : List Nat) : ((nats xs).all oneB) = true := by simp [oneB]
theorem bools_one (xs : List Bool) : ((bools xs).all oneB) = true := by simp [oneB]
theorem byts_one (xs : List Nat) : ((byts xs).all oneB) = true := by simp [oneB]

/-- How a struct's parts lie. -/
def Plan (P : Program) (T : TypeId) (pl : List (Nat × Nat)) : Prop :=
  ∃ fields, P.underlying T = some (.struct fields) ∧ ∀ w : World, (fields.mapM fun f => do pure (f.offset, ← sizeOf f.type) : Sem (Array (Nat × Nat))).run P w = .ok pl.toArray w

section
variable {P : Program} {base : World} {ρ : Env} {O : List Item} {dst : Option Nat} {t : TypeId} {p : String} {af : Array Edge} {g : Option (Nat × Bool)}

theorem q_idx {x y : Operand} {T E : TypeId} {b o n c i : Nat} {k : IntKind} {z : Value} {by_ : Nat} (hu : P.underlying T = some (.slice E)) (hi : Inf P E z 1 by_) (hx : ev ρ x = .slice (some ⟨b, o, none⟩) n c) (hy : ev ρ y = .int k (i : Int)) (hlt : i < n) :
    QT P base ⟨dst, .indexAddr T x y, t, p, af, g⟩ ρ O (.pointer (some ⟨b, o + i, none⟩)) := by
  have := q_indexAddr (P := P) (base := base) (O := O) (dst := dst) (t := t) (p := p) (af := af) (g := g) hu hi hx hy hlt
  rwa [Nat.mul_one] at this

theorem q_idxz {x y : Operand} {T E : TypeId} {b o n c : Nat} {i : Int} {k : IntKind} {z : Value} {by_ : Nat} (hu : P.underlying T = some (.slice E)) (hi : Inf P E z 1 by_) (hx : ev ρ x = .slice (some ⟨b, o, none⟩) n c) (hy : ev ρ y = .int k i) (h0 : 0 ≤ i) (hlt : i.toNat < n) :
    QT P base ⟨dst, .indexAddr T x y, t, p, af, g⟩ ρ O (.pointer (some ⟨b, o + i.toNat, none⟩)) :=
  q_idx hu hi hx (by rw [hy, Int.toNat_of_nonneg h0]) hlt

theorem q_pick1 {c a b : Operand} {v : Value} (hc : ev ρ c = .bool true) (ha : ev ρ a = v) : QT P base ⟨dst, .pick c a b, t, p, af, g⟩ ρ O v := fun w _ => by simp [execOp, hc, ha, asBool]
theorem q_pick0 {c a b : Operand} {v : Value} (hc : ev ρ c = .bool false) (hb : ev ρ b = v) : QT P base ⟨dst, .pick c a b, t, p, af, g⟩ ρ O v := fun w _ => by simp [execOp, hc, hb, asBool]

theorem q_build {T : TypeId} {parts : List (Nat × Operand)} {pl : List (Nat × Nat)} {z : Value} {s by_ : Nat} {cs : List Value} (hp : Plan P T pl) (hi : Inf P T z s by_) (hf : Instr.fill (fun i => pl[i]?) z.cells (parts.map fun q => (q.1, ev ρ q.2)) = some cs.toArray) :
    QT P base ⟨dst, .build T parts.toArray, t, p, af, g⟩ ρ O (.agg cs.toArray) := fun w _ => by
  obtain ⟨fields, hu, hm⟩ := hp
  have hf' : Instr.fill (fun i => pl.toArray[i]?) z.cells (parts.map fun q => (q.1, ev ρ q.2)) = some cs.toArray := by simpa using hf
  simp only [execOp, Instr.build, Sem.run_bind, run_zeroValue' hi, Result.andThen_ok, run_underlying' hu, hm w]
  simp at hf'
  simp [hf']

end
end Go.Lx

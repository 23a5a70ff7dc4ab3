/- Slices of slices: those that came in, those that the call made. -/
import Derived.Test.YthfemndklplpbaaDoorCoreE
set_option linter.unusedSectionVars false
set_option linter.unusedSimpArgs false
set_option linter.unusedVariables false
set_option linter.unnecessarySimpa false
namespace Go.Lx
open Go.RowKit

theorem QT.toB {P : Program} {base : World} {o : Oper} {ρ : Env} {O : List Item} {b b' : Bool} (h : QT P base o ρ O (.bool b)) (e : b = b') : QT P base o ρ O (.bool b') := e ▸ h

/-- The cells vs hold slices, whose elements are the numbers rs. -/
def RowsR (w : World) (vs : List Value) (rs : List (List Int)) : Prop :=
  vs.length = rs.length ∧ ∀ (i : Nat) (r : List Int), rs[i]? = some r → ∃ b c, vs[i]? = some (Value.slice b r.length c) ∧ Sl w b (ints r)

theorem RowsR.get {w : World} {vs : List Value} {rs : List (List Int)} (h : RowsR w vs rs) {i : Nat} (hi : i < rs.length) : ∃ b c, vs[i]? = some (Value.slice b rs[i].length c) ∧ Sl w b (ints rs[i]) :=
  h.2 i rs[i] (List.getElem?_eq_getElem hi)

theorem RowsR.keep {w w' : World} {vs : List Value} {rs : List (List Int)} (h : RowsR w vs rs) (hb : ∀ k, k < w.heap.size → w'.heap[k]? = w.heap[k]?) : RowsR w' vs rs :=
  ⟨h.1, fun i r hr => by obtain ⟨b, c, h1, h2⟩ := h.2 i r hr; exact ⟨b, c, h1, h2.keep hb⟩⟩

theorem Inv.rows {base : World} {O : List Item} {w : World} (hI : Inv base O w) {vs : List Value} {rs : List (List Int)} (h : RowsR base vs rs) : RowsR w vs rs := h.keep hI.below.block

/-- A row that the call made: where it lies, its capacity, its numbers. -/
structure Rec where
  b : Option Addr
  c : Nat
  xs : List Int

def Rec.val (q : Rec) : Value := .slice q.b q.xs.length q.c
def Rec.itm (E : TypeId) (q : Rec) : Item := rowI q.b q.c E 1 (ints q.xs)

abbrev vals (qs : List Rec) : List Value := qs.map Rec.val
abbrev itms (E : TypeId) (qs : List Rec) : List Item := qs.map (Rec.itm E)
abbrev nums (qs : List Rec) : List (List Int) := qs.map Rec.xs

theorem vals_one (qs : List Rec) : ((vals qs).all oneB) = true := by simp [oneB, Rec.val]

theorem Inv.recs {base : World} {O : List Item} {w : World} (hI : Inv base O w) {E : TypeId} {qs : List Rec} (h : ∀ q ∈ qs, q.itm E ∈ O) : RowsR w (vals qs) (nums qs) := by
  refine ⟨by simp, fun i r hr => ?_⟩
  obtain ⟨q, hq, rfl⟩ : ∃ q, qs[i]? = some q ∧ q.xs = r := by
    rw [List.getElem?_map] at hr
    cases e : qs[i]? with
    | none => rw [e] at hr; cases hr
    | some q => rw [e] at hr; exact ⟨q, rfl, by simpa using hr⟩
  refine ⟨q.b, q.c, by simp [hq, Rec.val], ?_⟩
  exact rowP.sl (hI.holds _ (h q (List.mem_of_getElem? hq)))

theorem Inv.slOf {base : World} {O : List Item} {w : World} (hI : Inv base O w) {b : Option Addr} {c : Nat} {T : TypeId} {k : Nat} {cs : List Value} (h : rowI b c T k cs ∈ O) : Sl w b cs := rowP.sl (hI.holds _ h)

section
variable {P : Program} {r : Option Nat} {base : World} {n : Nat} {ρ : Env} {O : List Item} {K : Env → List Item → Prop} {d : Nat} {t : TypeId} {p : String} {af : Array Edge} {g : Option (Nat × Bool)} {dst : Option Nat}

/-- an element of a slice of our own, wherever it stands among the items -/
theorem q_load_rowM {x : Operand} {T E : TypeId} {dd : TypeDesc} {b o i c k : Nat} {cs : List Value} {v : Value} (hu : P.underlying T = some dd) (ha : aggB dd = false) (hx : ev ρ x = .pointer (some ⟨b, o + i, none⟩))
    (hO : rowI (some ⟨b, o, none⟩) c E k cs ∈ O) (hv : cs[i]? = some v) : QT P base ⟨dst, .load T x, t, p, af, g⟩ ρ O v :=
  q_load_cell hu ha hx fun _ hI => (hI.slOf hO).get hv

/-- append onto the nil slice -/
theorem l_appendN {T U E XE : TypeId} {l s by_ : Nat} {x y : Operand} {xv z : Value} {new : List Value}
    (hu : P.underlying T = some (.slice E)) (hxu : P.underlying U = some (.slice XE)) (hi : Inf P E z s by_) (hz : z.cells.size = s)
    (hx : ev ρ x = .slice none 0 0) (hy : ev ρ y = xv) (hs : 0 < s)
    (hsrc : Src P base O s l xv new) (hone : (new.all oneB) = true) (hsz : l * by_ ≤ 70368744177664) (hby : by_ ≤ 1000000) (hsz' : 0 < by_)
    (h : ∀ b' c', K (upd ρ d (.slice b' l c')) (rowI b' c' E s new :: O)) (hn : Nat.blt d n = true := by rfl) :
    LT P r base n ⟨some d, .call ⟨.builtin .append, #[x, y], #[T, U]⟩, t, p, af, g⟩ ρ O K :=
  LT.of_run hn fun w M hI => by
    have hI' := hI.nilRow E s
    have hsrc' : Src P base (rowI none 0 E s [] :: (O ++ M)) s l xv new := ⟨hsrc.1, hsrc.2.1, fun w hI => hsrc.2.2 w (hI.sub (List.sublist_cons_self _ _)).left⟩
    obtain ⟨b', c', w', hr, hI''⟩ := run_append (j := 0) (ty := t) (m := 0) hu hxu (.inl ⟨_, rfl⟩) hi hz rfl (by simp) hs hsrc' hone (by simpa using hsz) hby hsz' hI'
    refine ⟨_, w', _, ?_, hI'', by simpa using h b' c'⟩
    rw [Nat.zero_add] at hr
    simp [execOp, resolve, hx, hy, invoke, builtin, hr]

theorem l_build1 {T E : TypeId} {x : Operand} {v : Value} {z : Value} {by_ : Nat} (hu : P.underlying T = some (.slice E)) (hi : Inf P E z 1 by_) (_hz : z.cells.size = 1) (hx : ev ρ x = v) (hv : oneB v = true)
    (h : ∀ b, K (upd ρ d (.slice (some ⟨b, 0, none⟩) 1 1)) (rowI (some ⟨b, 0, none⟩) 1 E 1 [v] :: O)) (hn : Nat.blt d n = true := by rfl) : LT P r base n ⟨some d, .buildSlice T 1 #[(0, x)], t, p, af, g⟩ ρ O K := by
  refine l_buildSlice (parts := [(0, x)]) (cs := [v]) hu hi (by omega) ?_ (by simp) h hn
  have hc : v.cells = #[v] := by cases v <;> simp_all [oneB, Value.cells]
  simp [Instr.fill, hx, hc]
  apply Array.ext_getElem?
  intro i
  cases i with
  | zero => simp
  | succ i => simp

/-- the sources of appends, wherever they stand -/
theorem Src.rowM {b : Option Addr} {c k m : Nat} {E : TypeId} {cs : List Value} (hO : rowI b c E k cs ∈ O) (hl : cs.length = m * k) (c' : Nat := c) : Src P base O k m (.slice b m c') cs :=
  ⟨hl, fun w => by simp [Builtin.lenOf], fun w hI => firstCells_run (hI.slOf hO) hl (fun e => by subst e; exact (hI.holds _ hO).1)⟩

end

theorem sub_push {A B C : Item} {I R : List Item} : Sub (A :: ((I ++ [C]) ++ R)) (B :: C :: A :: (I ++ R)) :=
  ⟨C :: A :: (I ++ R), by
    have : (I ++ [C] ++ R).Perm (C :: (I ++ R)) := by
      rw [List.append_assoc]
      exact List.perm_middle
    exact (List.Perm.cons A this).trans (List.Perm.swap C A _), List.Sublist.cons _ (List.Sublist.refl _)⟩

theorem sub_push' {A B C : Item} {I : List Item} : Sub (A :: (I ++ [C])) (B :: C :: A :: I) := by
  have := sub_push (A := A) (B := B) (C := C) (I := I) (R := [])
  simpa using this

/-! ### the shape of an automaton's memory -/

structure DFA where
  vars : Int
  start : Int
  next : List (List Int)
  final : List Bool
  deriving DecidableEq

/-- Where an automaton that came in lies: the two slices' places, and the cells of the outer one. -/
structure DfaAt (w : World) (d : DFA) (nb : Option Addr) (vs : List Value) (fb : Option Addr) : Prop where
  outer : Sl w nb vs
  rows : RowsR w vs d.next
  final : Sl w fb (bools d.final)

theorem DfaAt.keep {w w' : World} {d : DFA} {nb : Option Addr} {vs : List Value} {fb : Option Addr} (h : DfaAt w d nb vs fb) (hb : ∀ k, k < w.heap.size → w'.heap[k]? = w.heap[k]?) : DfaAt w' d nb vs fb :=
  ⟨h.outer.keep hb, h.rows.keep hb, h.final.keep hb⟩
theorem Inv.dfa {base : World} {O : List Item} {w : World} (hI : Inv base O w) {d : DFA} {nb : Option Addr} {vs : List Value} {fb : Option Addr} (h : DfaAt base d nb vs fb) : DfaAt w d nb vs fb := h.keep hI.below.block

/-- The cells of an automaton's value. -/
abbrev dfaCells (d : DFA) (nb : Option Addr) (nc : Nat) (fb : Option Addr) (fc : Nat) : List Value := [.int .i64 d.vars, .int .i64 d.start, .slice nb d.next.length nc, .slice fb d.final.length fc]

end Go.Lx

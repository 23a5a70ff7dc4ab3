/- A Hoare logic over the model's code: environments as functions, owned memory items, the invariant, and one rule for each form of code. -/
import Derived.WalkKit
import Derived.Below
import Derived.Orders
import Derived.Calls
import Derived.Control
import Derived.RangeFuncNested
import Derived.TacticsIn
import Derived.OrdersIn
set_option linter.unusedSectionVars false
set_option linter.unusedSimpArgs false
set_option linter.unusedVariables false
set_option linter.unnecessarySimpa false
namespace Go.Lx
open Go.RowKit

/-- What the temporaries hold. -/
abbrev Env := Nat → Value

def upd (ρ : Env) (d : Nat) (v : Value) : Env := fun t => match Nat.beq t d with
  | true => v
  | false => ρ t

def ev (ρ : Env) : Operand → Value
  | .tmp t => ρ t
  | .const v => v
  | .global g => .pointer (some ⟨g, 0, none⟩)
  | .func f => .func (.func f) #[] #[]

def evs (ρ : Env) : List Operand → List Value
  | [] => []
  | x :: l => ev ρ x :: evs ρ l

theorem evs_eq (ρ : Env) (l : List Operand) : evs ρ l = l.map (ev ρ) := by
  induction l with
  | nil => rfl
  | cons x l ih => simp [evs, ih]

/-- The frame's temporaries are as the environment says; n of them; the deferred calls are ds. -/
structure Ag (n : Nat) (ds : List Deferred) (a : Act) (ρ : Env) : Prop where
  tmp : ∀ t, a.tmps.getD t undef = ρ t
  size : a.tmps.size = n
  defers : a.defers = ds

theorem Ag.eval {n : Nat} {ds : List Deferred} {a : Act} {ρ : Env} (h : Ag n ds a ρ) : a.eval = ev ρ := by
  funext x
  cases x with
  | tmp t => exact h.tmp t
  | _ => rfl

theorem Ag.put {n : Nat} {ds : List Deferred} {a : Act} {ρ : Env} (h : Ag n ds a ρ) {d : Nat} (hd : Nat.blt d n = true) (v : Value) : Ag n ds (a.put (some d) v) (upd ρ d v) := by
  have hd' : d < a.tmps.size := by rw [h.size]; rw [Nat.blt_eq] at hd; exact hd
  refine ⟨fun t => ?_, by simp [Act.put, h.size], by simp [Act.put, h.defers]⟩
  have ht := h.tmp t
  simp only [Act.put, upd]
  by_cases e : t = d
  · subst e
    have hb : Nat.beq t t = true := Nat.beq_refl t
    rw [hb]
    simp [Array.getD_eq_getD_getElem?, hd']
  · have hb : Nat.beq t d = false := by
      rcases h' : Nat.beq t d with _ | _
      · rfl
      · exact absurd (Nat.eq_of_beq_eq_true h') e
    rw [hb]
    simp only [Array.getD_eq_getD_getElem?] at ht ⊢
    rw [Array.getElem?_setIfInBounds_ne (Ne.symm e)]
    exact ht

/-! ### Owned memory -/

/-- A piece of memory that the code at hand owns: its blocks, and what is known of them. -/
structure Item where
  blocks : List Nat
  P : World → Prop
  loc : ∀ w w' : World, (∀ b ∈ blocks, w'.heap[b]? = w.heap[b]?) → P w → P w'

/-- One whole block. -/
def objI (b : Nat) (o : Obj) : Item := ⟨[b], fun w => w.heap[b]? = some o, fun w w' h hp => by rw [h b (by simp)]; exact hp⟩

structure Inv (base : World) (O : List Item) (w : World) : Prop where
  below : Below base.heap.size base w
  holds : ∀ it ∈ O, it.P w
  fresh : ∀ it ∈ O, ∀ b ∈ it.blocks, base.heap.size ≤ b ∧ b < w.heap.size
  nodup : (O.flatMap Item.blocks).Nodup

theorem Inv.refl (w : World) : Inv w [] w := ⟨Below.refl _ _, by simp, by simp, by simp⟩

/-- Worlds that differ in the count of draws alone. -/
theorem Inv.same {base : World} {O : List Item} {w w' : World} (h : Inv base O w) (hh : w'.heap = w.heap) (ho : w'.os = w.os) (ht : w'.tape = w.tape) (hp : w'.output = w.output) : Inv base O w' := by
  refine ⟨⟨ho.trans h.below.os, ht.trans h.below.tape, hp.trans h.below.output, by rw [hh]; exact h.below.size, fun k hk => by rw [hh]; exact h.below.block k hk⟩, fun it hi => it.loc w w' (fun b _ => by rw [hh]) (h.holds it hi), fun it hi b hb => by rw [hh]; exact h.fresh it hi b hb, h.nodup⟩

theorem Inv.drew {base : World} {O : List Item} {w : World} (h : Inv base O w) : Inv base O w.drew := h.same rfl rfl rfl rfl
theorem Inv.drawn {base : World} {O : List Item} {w : World} (h : Inv base O w) (n : Nat) : Inv base O { w with drawn := n } := h.same rfl rfl rfl rfl

theorem nodup_sub {l l' : List Nat} (h : l'.Sublist l) (hn : l.Nodup) : l'.Nodup := hn.sublist h

theorem flatMap_sublist {O O' : List Item} (h : O'.Sublist O) : (O'.flatMap Item.blocks).Sublist (O.flatMap Item.blocks) := by
  induction h with
  | slnil => exact List.Sublist.refl _
  | cons a _ ih => exact ih.trans (by simp [List.flatMap_cons])
  | cons_cons a _ ih => simp only [List.flatMap_cons]; exact (List.Sublist.refl _).append ih

theorem Inv.sub {base : World} {O O' : List Item} {w : World} (h : Inv base O w) (hs : O'.Sublist O) : Inv base O' w :=
  ⟨h.below, fun it hi => h.holds it (hs.subset hi), fun it hi => h.fresh it (hs.subset hi), (flatMap_sublist hs).nodup h.nodup⟩

theorem Inv.perm {base : World} {O O' : List Item} {w : World} (h : Inv base O w) (hs : O'.Perm O) : Inv base O' w :=
  ⟨h.below, fun it hi => h.holds it (hs.mem_iff.1 hi), fun it hi => h.fresh it (hs.mem_iff.1 hi), ((hs.flatMap_right Item.blocks).nodup_iff).2 h.nodup⟩

/-- Some of the items, in some order. -/
def Sub (O' O : List Item) : Prop := ∃ l, O'.Perm l ∧ l.Sublist O

theorem Sub.of {O' O : List Item} (h : O'.Sublist O) : Sub O' O := ⟨O', List.Perm.refl _, h⟩

theorem Inv.subp {base : World} {O O' : List Item} {w : World} (h : Inv base O w) (hs : Sub O' O) : Inv base O' w := by
  obtain ⟨l, hp, hsub⟩ := hs
  exact (h.sub hsub).perm hp

/-- A call that leaves all that it found. -/
theorem Inv.call {base : World} {O O' : List Item} {w w' : World} (h : Inv base O w) (h' : Inv w O' w') : Inv base (O' ++ O) w' := by
  have hkeep : ∀ b, b < w.heap.size → w'.heap[b]? = w.heap[b]? := h'.below.block
  refine ⟨?_, ?_, ?_, ?_⟩
  · exact h.below.trans (h'.below.mono h.below.size)
  · intro it hi
    rcases List.mem_append.1 hi with hi | hi
    · exact h'.holds it hi
    · exact it.loc w w' (fun b hb => hkeep b (h.fresh it hi b hb).2) (h.holds it hi)
  · intro it hi b hb
    rcases List.mem_append.1 hi with hi | hi
    · have := h'.fresh it hi b hb
      exact ⟨Nat.le_trans h.below.size this.1, this.2⟩
    · have := h.fresh it hi b hb
      exact ⟨this.1, Nat.lt_of_lt_of_le this.2 h'.below.size⟩
  · rw [List.flatMap_append, List.nodup_append]
    refine ⟨h'.nodup, h.nodup, fun x hx y hy e => ?_⟩
    obtain ⟨i, hi, hxi⟩ := List.mem_flatMap.1 hx
    obtain ⟨j, hj, hyj⟩ := List.mem_flatMap.1 hy
    have h1 := (h'.fresh i hi x hxi).1
    have h2 := (h.fresh j hj y hyj).2
    omega

/-- A step that turns the blocks of one item alone, and may make new ones. -/
theorem Inv.step {base : World} {A B N : List Item} {it : Item} {w w' : World} (h : Inv base (A ++ it :: B) w)
    (ho : w'.os = w.os) (ht : w'.tape = w.tape) (hp : w'.output = w.output) (hs : w.heap.size ≤ w'.heap.size)
    (hb : ∀ b, b < w.heap.size → b ∉ it.blocks → w'.heap[b]? = w.heap[b]?)
    (hN : ∀ x ∈ N, x.P w') (hf : ∀ x ∈ N, ∀ b ∈ x.blocks, b ∈ it.blocks ∨ (w.heap.size ≤ b ∧ b < w'.heap.size)) (hn : (N.flatMap Item.blocks).Nodup) :
    Inv base (A ++ N ++ B) w' := by
  have hmem : ∀ x ∈ A ++ B, x ∈ A ++ it :: B := fun x hx => by
    rcases List.mem_append.1 hx with h | h <;> simp [h]
  have hnd : (A.flatMap Item.blocks ++ (it.blocks ++ B.flatMap Item.blocks)).Nodup := by
    have := h.nodup; simpa [List.flatMap_append, List.flatMap_cons] using this
  have hsep : ∀ x ∈ A ++ B, ∀ b ∈ x.blocks, b ∉ it.blocks := by
    intro x hx b hb hi
    rw [List.nodup_append] at hnd
    obtain ⟨_, h2, h3⟩ := hnd
    rw [List.nodup_append] at h2
    rcases List.mem_append.1 hx with hx | hx
    · exact h3 b (List.mem_flatMap.2 ⟨x, hx, hb⟩) b (List.mem_append.2 (.inl hi)) rfl
    · exact h2.2.2 b hi b (List.mem_flatMap.2 ⟨x, hx, hb⟩) rfl
  have hits : ∀ b ∈ it.blocks, base.heap.size ≤ b ∧ b < w.heap.size := h.fresh it (by simp)
  refine ⟨?_, ?_, ?_, ?_⟩
  · refine ⟨ho.trans h.below.os, ht.trans h.below.tape, hp.trans h.below.output, Nat.le_trans h.below.size hs, fun k hk => ?_⟩
    rw [hb k (Nat.lt_of_lt_of_le hk h.below.size) (fun hi => by have := (hits k hi).1; omega)]
    exact h.below.block k hk
  · intro x hx
    rcases List.mem_append.1 hx with hx | hx
    · rcases List.mem_append.1 hx with hx | hx
      · have hx' : x ∈ A ++ B := by simp [hx]
        exact x.loc w w' (fun b hb' => hb b (h.fresh x (hmem x hx') b hb').2 (hsep x hx' b hb')) (h.holds x (hmem x hx'))
      · exact hN x hx
    · have hx' : x ∈ A ++ B := by simp [hx]
      exact x.loc w w' (fun b hb' => hb b (h.fresh x (hmem x hx') b hb').2 (hsep x hx' b hb')) (h.holds x (hmem x hx'))
  · intro x hx b hb'
    rcases List.mem_append.1 hx with hx | hx
    · rcases List.mem_append.1 hx with hx | hx
      · have hx' : x ∈ A ++ B := by simp [hx]
        have := h.fresh x (hmem x hx') b hb'
        exact ⟨this.1, Nat.lt_of_lt_of_le this.2 hs⟩
      · rcases hf x hx b hb' with h1 | h1
        · exact ⟨(hits b h1).1, Nat.lt_of_lt_of_le (hits b h1).2 hs⟩
        · exact ⟨Nat.le_trans h.below.size h1.1, h1.2⟩
    · have hx' : x ∈ A ++ B := by simp [hx]
      have := h.fresh x (hmem x hx') b hb'
      exact ⟨this.1, Nat.lt_of_lt_of_le this.2 hs⟩
  · have hsepN : ∀ x ∈ A ++ B, ∀ b ∈ x.blocks, ∀ y ∈ N, b ∉ y.blocks := by
      intro x hx b hb' y hy hby
      rcases hf y hy b hby with h1 | h1
      · exact hsep x hx b hb' h1
      · have := (h.fresh x (hmem x hx) b hb').2; omega
    simp only [List.flatMap_append]
    rw [List.nodup_append] at hnd
    obtain ⟨h1, h2, h3⟩ := hnd
    rw [List.nodup_append] at h2
    obtain ⟨_, h5, _⟩ := h2
    rw [List.nodup_append]
    refine ⟨?_, h5, ?_⟩
    · rw [List.nodup_append]
      refine ⟨h1, hn, fun x hx y hy e => ?_⟩
      subst e
      obtain ⟨i, hi, hxi⟩ := List.mem_flatMap.1 hx
      obtain ⟨j, hj, hyj⟩ := List.mem_flatMap.1 hy
      exact hsepN i (by simp [hi]) x hxi j hj hyj
    · intro x hx y hy e
      subst e
      rcases List.mem_append.1 hx with hx | hx
      · exact h3 x hx x (List.mem_append.2 (.inr hy)) rfl
      · obtain ⟨i, hi, hxi⟩ := List.mem_flatMap.1 hx
        obtain ⟨j, hj, hyj⟩ := List.mem_flatMap.1 hy
        exact hsepN j (by simp [hj]) x hyj i hi hxi

/-- Where an item lies in the list: the list parted there. -/
theorem split_at {O : List Item} {i : Nat} {it : Item} (h : O[i]? = some it) : ∃ A B, O = A ++ it :: B ∧ ∀ x, O.set i x = A ++ x :: B := by
  induction O generalizing i with
  | nil => simp at h
  | cons y O ih =>
    cases i with
    | zero => simp at h; subst h; exact ⟨[], O, rfl, fun x => rfl⟩
    | succ i =>
      obtain ⟨A, B, e, hset⟩ := ih (i := i) (by simpa using h)
      exact ⟨y :: A, B, by rw [e]; rfl, fun x => by simp [hset x]⟩

/-- A step on the i-th item. -/
theorem Inv.stepAt {base : World} {O : List Item} {i : Nat} {it it' : Item} {w w' : World} (h : Inv base O w) (hi : O[i]? = some it)
    (ho : w'.os = w.os) (ht : w'.tape = w.tape) (hp : w'.output = w.output) (hs : w.heap.size ≤ w'.heap.size)
    (hb : ∀ b, b < w.heap.size → b ∉ it.blocks → w'.heap[b]? = w.heap[b]?)
    (hN : it'.P w') (hf : ∀ b ∈ it'.blocks, b ∈ it.blocks ∨ (w.heap.size ≤ b ∧ b < w'.heap.size)) (hn : it'.blocks.Nodup) :
    Inv base (O.set i it') w' := by
  obtain ⟨A, B, e, hset⟩ := split_at hi
  subst e
  rw [hset it']
  have := Inv.step (N := [it']) h ho ht hp hs hb (by simpa using hN) (by simpa using hf) (by simpa using hn)
  simpa using this

/-- New items, nothing turned. -/
theorem Inv.new {base : World} {O N : List Item} {w w' : World} (h : Inv base O w)
    (ho : w'.os = w.os) (ht : w'.tape = w.tape) (hp : w'.output = w.output) (hs : w.heap.size ≤ w'.heap.size)
    (hb : ∀ b, b < w.heap.size → w'.heap[b]? = w.heap[b]?)
    (hN : ∀ x ∈ N, x.P w') (hf : ∀ x ∈ N, ∀ b ∈ x.blocks, w.heap.size ≤ b ∧ b < w'.heap.size) (hn : (N.flatMap Item.blocks).Nodup) :
    Inv base (N ++ O) w' :=
  h.call ⟨⟨ho, ht, hp, hs, hb⟩, hN, hf, hn⟩

theorem Inv.alloc {base : World} {O : List Item} {w : World} (h : Inv base O w) (o : Obj) : Inv base (objI w.heap.size o :: O) (w.alloc o) := by
  refine Inv.new (N := [objI w.heap.size o]) h rfl rfl rfl (by simp) (fun b hb => Below.heap_alloc w o b hb) ?_ ?_ ?_
  · intro x hx
    simp at hx; subst hx
    show (w.heap.push o)[w.heap.size]? = some o
    simp
  · intro x hx b hb
    simp at hx; subst hx
    simp [objI] at hb; subst hb
    simp
  · simp [objI]

/-! ### Code -/

/-- The fence that lets everything in, of functions' activations (none) or of a loop's rounds. -/
def Fr (r : Option Nat) : Fence := { Fence.wide with round := r }

theorem Fr_room (r : Option Nat) (n : Nat) : (Fr r).room n := fun _ h => by simp [Fr, Fence.wide] at h

/-- A mark among the deferred calls, and the block that it names. -/
def markD (b : Nat) : Deferred := { target := .collected b, args := #[] }
def markI (b : Nat) : Item := objI b (.deferred (some []))
abbrev mD (D : List Nat) : List Deferred := D.map markD
abbrev mI (D : List Nat) : List Item := D.map markI

/-- In a round: its loop's record lies among what the code knows nothing of. -/
def MOk : Option Nat → List Item → Prop
  | none, _ => True
  | some l, M => ∃ it ∈ M, ∀ w, it.P w → ∃ rc, w.heap[l]? = some (.loop rc)

abbrev Post := Exit → Env → List Item → Prop

/-- M: what the code knows nothing of. D: the loops' marks so far. -/
def lift (base : World) (n : Nat) (M : List Item) (Q : Post) : Exit → Act → World → Prop := fun e a w => ∃ ρ O D, Ag n (mD D) a ρ ∧ Inv base (O ++ (mI D ++ M)) w ∧ Q e ρ O

/-- From every frame and world that the environment and the items describe, the code comes out as Q says. -/
def T (P : Program) (r : Option Nat) (base : World) (n : Nat) (c : Code) (Q : Post) (ρ : Env) (O : List Item) : Prop :=
  ∀ a w M D, MOk r M → Ag n (mD D) a ρ → Inv base (O ++ (mI D ++ M)) w → c.wpIn (Fr r) 0 P (lift base n M Q) a w

def thn (K : Env → List Item → Prop) (Q : Post) : Post
  | .normal, ρ, O => K ρ O
  | e, ρ, O => Q e ρ O

def inB (id : Nat) (Q : Post) : Post
  | .exit id', ρ, O => match Nat.beq id' id with
    | true => Q .normal ρ O
    | false => Q (.exit id') ρ O
  | e, ρ, O => Q e ρ O

section rules
variable {P : Program} {r : Option Nat} {base : World} {n : Nat} {Q : Post} {ρ : Env} {O : List Item}

theorem T.mono {c : Code} {Q' : Post} (h : T P r base n c Q ρ O) (hq : ∀ e ρ O, Q e ρ O → Q' e ρ O) : T P r base n c Q' ρ O :=
  fun a w M D hM ha hi => wpIn_mono (h a w M D hM ha hi) (fun e _ _ ⟨ρ, O, D, h1, h2, h3⟩ => ⟨ρ, O, D, h1, h2, hq e ρ O h3⟩)

theorem T.skip (h : Q .normal ρ O) : T P r base n .skip Q ρ O := fun _ _ _ D _ ha hi => wpIn_skip ⟨ρ, O, D, ha, hi, h⟩
theorem T.label {l : Nat} (h : Q .normal ρ O) : T P r base n (.label l) Q ρ O := fun _ _ _ D _ ha hi => wpIn_label ⟨ρ, O, D, ha, hi, h⟩
theorem T.exit {id : Nat} (h : Q (.exit id) ρ O) : T P r base n (.exit id) Q ρ O := fun _ _ _ D _ ha hi => wpIn_exit ⟨ρ, O, D, ha, hi, h⟩
theorem T.ret (h : Q .ret ρ O) : T P r base n .ret Q ρ O := fun _ _ _ D _ ha hi => wpIn_ret ⟨ρ, O, D, ha, hi, h⟩

theorem T.seq {x y : Code} (h : T P r base n x (thn (fun ρ O => T P r base n y Q ρ O) Q) ρ O) : T P r base n (.seq x y) Q ρ O := by
  intro a w M D hM ha hi
  refine wpIn_seq (wpIn_mono (h a w M D hM ha hi) ?_)
  rintro e a' w' ⟨ρ', O', D', h1, h2, h3⟩
  cases e with
  | normal => exact h3 a' w' M D' hM h1 h2
  | _ => exact ⟨ρ', O', D', h1, h2, h3⟩

/-- What the first part comes to, said once. -/
theorem T.cut {x y : Code} (K : Env → List Item → Prop) (h : T P r base n x (thn K Q) ρ O) (hk : ∀ ρ O, K ρ O → T P r base n y Q ρ O) : T P r base n (.seq x y) Q ρ O :=
  T.seq (h.mono fun e ρ O h => by cases e <;> first | exact hk ρ O h | exact h)

theorem T.cond {c : Operand} {x y : Code} {t : Bool} (hc : ev ρ c = .bool t) (h1 : t = true → T P r base n x Q ρ O) (h0 : t = false → T P r base n y Q ρ O) : T P r base n (.cond c x y) Q ρ O := by
  intro a w M D hM ha hi
  refine wpIn_cond (t := t) (by rw [ha.eval]; exact hc) ?_
  cases t
  · exact h0 rfl a w M D hM ha hi
  · exact h1 rfl a w M D hM ha hi

theorem T.cond1 {c : Operand} {x y : Code} (hc : ev ρ c = .bool true) (h : T P r base n x Q ρ O) : T P r base n (.cond c x y) Q ρ O :=
  T.cond hc (fun _ => h) (fun e => by cases e)
theorem T.cond0 {c : Operand} {x y : Code} (hc : ev ρ c = .bool false) (h : T P r base n y Q ρ O) : T P r base n (.cond c x y) Q ρ O :=
  T.cond hc (fun e => by cases e) (fun _ => h)

/-- A test on a proposition. -/
theorem T.condP {c : Operand} {x y : Code} {p : Prop} [Decidable p] (hc : ev ρ c = .bool (decide p)) (h1 : p → T P r base n x Q ρ O) (h0 : ¬ p → T P r base n y Q ρ O) : T P r base n (.cond c x y) Q ρ O :=
  T.cond hc (fun e => h1 (of_decide_eq_true e)) (fun e => h0 (of_decide_eq_false e))

theorem T.block {id : Nat} {c : Code} (h : T P r base n c (inB id Q) ρ O) : T P r base n (.block id c) Q ρ O := by
  intro a w M D hM ha hi
  refine wpIn_block (wpIn_mono (h a w M D hM ha hi) ?_)
  rintro e a' w' ⟨ρ', O', D', h1, h2, h3⟩
  cases e with
  | exit id' =>
    simp only [Exit.inBlock]
    simp only [inB] at h3
    by_cases e : id' = id
    · subst e
      rw [if_pos rfl]
      rw [Nat.beq_refl] at h3
      exact ⟨ρ', O', D', h1, h2, h3⟩
    · rw [if_neg e]
      have hb : Nat.beq id' id = false := by
        rcases h' : Nat.beq id' id with _ | _
        · rfl
        · exact absurd (Nat.eq_of_beq_eq_true h') e
      rw [hb] at h3
      exact ⟨ρ', O', D', h1, h2, h3⟩
  | _ => exact ⟨ρ', O', D', h1, h2, h3⟩

/-- A loop: the invariant speaks of a ghost, whose measure every round lowers. -/
theorem T.loop {c : Code} {α : Type} (I : α → Env → List Item → Prop) (μ : α → Nat) (s : α) (h0 : I s ρ O)
    (h : ∀ s ρ O, I s ρ O → T P r base n c (thn (fun ρ' O' => ∃ s', μ s' < μ s ∧ I s' ρ' O') Q) ρ O) : T P r base n (.loop c) Q ρ O := by
  have key : ∀ (m : Nat) (s : α) (ρ : Env) (O : List Item) (a : Act) (w : World) (M : List Item) (D : List Nat), μ s = m → I s ρ O → MOk r M → Ag n (mD D) a ρ → Inv base (O ++ (mI D ++ M)) w →
      ∀ (b : Frame) (k : List Go.Item) (cs : List Frame), b.roundOf = (Fr r).round → (Fr r).fn b.fn → (Fr r).room (cs.length + 1 + 0) →
        ∃ e a' w', lift base n M Q e a' w' ∧ ArrivesIn (Machine.fenced P (Fr r)) P (lone (b.atR a (.code c :: .inLoop c :: k)) cs w) b k cs e a' w' := by
    intro m
    induction m using Nat.strongRecOn with
    | _ m ih =>
      intro s ρ O a w M D hm hI hM ha hi b k cs hro hb hr
      obtain ⟨e, a₁, w₁, hq, harr⟩ := h s ρ O hI a w M D hM ha hi b (.inLoop c :: k) cs hro hb hr
      obtain ⟨ρ₁, O₁, D₁, ha₁, hi₁, hq⟩ := hq
      cases e with
      | normal =>
        obtain ⟨s', hlt, hI'⟩ := hq
        obtain ⟨e₂, a₂, w₂, hq₂, harr₂⟩ := ih (μ s') (hm ▸ hlt) s' ρ₁ O₁ a₁ w₁ M D₁ rfl hI' hM ha₁ hi₁ b k cs hro hb hr
        exact ⟨e₂, a₂, w₂, hq₂, .of_steps (StepsIn.trans harr (.one (fenced_calm hb hr rfl) stepR_inLoop)) harr₂⟩
      | exit id => exact ⟨_, a₁, w₁, ⟨ρ₁, O₁, D₁, ha₁, hi₁, hq⟩, .pass (x := .inLoop c) rfl (fun _ _ => .inl (by simp)) harr⟩
      | goto l => exact ⟨_, a₁, w₁, ⟨ρ₁, O₁, D₁, ha₁, hi₁, hq⟩, .pass (x := .inLoop c) rfl (fun _ _ => .inl (by simp)) harr⟩
      | ret => exact ⟨_, a₁, w₁, ⟨ρ₁, O₁, D₁, ha₁, hi₁, hq⟩, .pass (x := .inLoop c) rfl (fun _ _ => .inl (by simp)) harr⟩
      | panic ch => exact ⟨_, a₁, w₁, ⟨ρ₁, O₁, D₁, ha₁, hi₁, hq⟩, .pass (x := .inLoop c) rfl (fun _ _ => .inl (by simp)) harr⟩
      | outgrown => exact ⟨_, a₁, w₁, ⟨ρ₁, O₁, D₁, ha₁, hi₁, hq⟩, .pass (x := .inLoop c) rfl (fun _ _ => .inl (by simp)) harr⟩
  intro a w M D hM ha hi b k cs hro hb hr
  obtain ⟨e, a', w', hq, harr⟩ := key _ s ρ O a w M D rfl h0 hM ha hi b k cs hro hb hr
  exact ⟨e, a', w', hq, .of_steps (.one (fenced_calm hb hr rfl) stepR_loop) harr⟩

theorem stepR_scope {b : Frame} {a : Act} {k : List Go.Item} {cs : List Frame} {w : World} {c : Code} : step P (lone (b.atR a (.code (.scope c) :: k)) cs w) = .next (lone (b.atR a (.code c :: .inScope c :: k)) cs w) :=
  step_lone_go (by simp [stepG, stepG.exec, Frame.atR])
theorem stepR_inScope {b : Frame} {a : Act} {k : List Go.Item} {cs : List Frame} {w : World} {c : Code} : step P (lone (b.atR a (.inScope c :: k)) cs w) = .next (lone (b.atR a k) cs w) :=
  step_lone_go (by simp [stepG, stepG.exec, Frame.atR])

/-- A scope without a jump to one of its labels. -/
theorem T.scope {c : Code} (h : T P r base n c Q ρ O) (hg : ∀ l ρ O, ¬ Q (.goto l) ρ O) : T P r base n (.scope c) Q ρ O := by
  intro a w M D hM ha hi b k cs hro hb hr
  obtain ⟨e, a₁, w₁, hq, harr⟩ := h a w M D hM ha hi b (.inScope c :: k) cs hro hb hr
  have h0 : (lone (b.atR a (.code (.scope c) :: k)) cs w).fenced P (Fr r) := fenced_calm hb hr rfl
  cases e with
  | normal => exact ⟨.normal, a₁, w₁, hq, .head h0 stepR_scope (StepsIn.trans harr (.one (fenced_calm hb hr rfl) stepR_inScope))⟩
  | exit id =>
    have hx : exitTo id (.inScope c :: k) = exitTo id k := by simp [exitTo]
    exact ⟨.exit id, a₁, w₁, hq, fun k' hk => .head h0 stepR_scope (harr.1 k' (by rw [hx]; exact hk)),
      fun hr' hk => let ⟨k₁, h1, h2⟩ := harr.2 hr' (by rw [hx]; exact hk); ⟨k₁, h1, .head h0 stepR_scope h2⟩⟩
  | goto l => obtain ⟨ρ', O', D', _, _, h3⟩ := hq; exact (hg l ρ' O' h3).elim
  | ret => exact ⟨_, a₁, w₁, hq, .of_steps (.one h0 stepR_scope) harr⟩
  | panic ch => exact ⟨_, a₁, w₁, hq, .of_steps (.one h0 stepR_scope) harr⟩
  | outgrown => exact ⟨_, a₁, w₁, hq, .of_steps (.one h0 stepR_scope) harr⟩

/-! ### Operations -/

/-- The operation leaves the world alone and yields v, wherever the items are as said. -/
def QT (P : Program) (base : World) (o : Oper) (ρ : Env) (O : List Item) (v : Value) : Prop :=
  ∀ w, Inv base O w → (execOp (ev ρ) o).run P w = .ok (.value v) w

/-- The operation, whatever it does, comes out as K says. -/
def LT (P : Program) (r : Option Nat) (base : World) (n : Nat) (o : Oper) (ρ : Env) (O : List Item) (K : Env → List Item → Prop) : Prop :=
  ∀ a w M ds, Ag n ds a ρ → Inv base (O ++ M) w → ∀ (next : Act → World → Prop) (Qx : Exit → Act → World → Prop),
    (∀ a' ρ' O' w', Ag n ds a' ρ' → Inv base (O' ++ M) w' → K ρ' O' → next a' w') → o.wpIn (Fr r) 0 P a w next Qx

theorem wpIn_Fr {o : Oper} {a : Act} {w : World} {next : Act → World → Prop} {Qx : Exit → Act → World → Prop} (hd : ∀ c, o.op ≠ .defer c)
    (h : o.uponIn (Fr r) 0 P a next Qx ((execOp a.eval o).run P w)) : o.wpIn (Fr r) 0 P a w next Qx :=
  ⟨fun _ _ => trivial, by rw [Oper.semAt_eq _ _ _ hd]; exact h⟩

theorem notDefer {o : Oper} {e : Operand → Value} {w : World} {x : Next} {w' : World} (h : (execOp e o).run P w = .ok x w') (hx : ∀ d, x ≠ .defer d) : ∀ c, o.op ≠ .defer c := by
  intro c ec
  unfold execOp at h
  simp only [ec] at h
  rw [Sem.run_bind] at h
  cases hr : (resolve e c o.type).run P w with
  | ok d w1 => rw [hr] at h; simp [Result.andThen] at h; exact hx _ h.1.symm
  | halt y w1 => rw [hr] at h; simp [Result.andThen] at h

/-- The rest of a region's operations, in the text's order. -/
def TO (P : Program) (r : Option Nat) (base : World) (n : Nat) (ops : Array Oper) (l : List Oper) (K : Env → List Item → Prop) (ρ : Env) (O : List Item) : Prop :=
  ∀ (Q : Post) a w M D, (∀ ρ O, K ρ O → Q .normal ρ O) → Ag n (mD D) a ρ → Inv base (O ++ (mI D ++ M)) w → wpListIn (Fr r) 0 P ops (lift base n M Q) l a w

theorem T.region {id : Nat} {l : List Oper} (h : TO P r base n l.toArray l (fun ρ O => Q .normal ρ O) ρ O) : T P r base n (.region id l.toArray false) Q ρ O :=
  fun a w M D _ ha hi => wpIn_region_lit (h Q a w M D (fun _ _ h => h) ha hi)

theorem TO.nil {ops : Array Oper} {K : Env → List Item → Prop} (h : K ρ O) : TO P r base n ops [] K ρ O :=
  fun _ _ _ _ D hk ha hi => wpListIn_nil ⟨ρ, O, D, ha, hi, hk _ _ h⟩

def yOf : Value → Option Bool
  | .bool b => some b
  | _ => none

theorem yielded_eq {a : Act} {ds : List Deferred} {ops : Array Oper} (ha : Ag n ds a ρ) {j t : Nat} (hj : (ops[j]?).bind (·.dst) = some t) : yielded ops a.tmps j = yOf (ρ t) := by
  have h := ha.tmp t
  unfold yielded
  rw [hj]
  rw [Array.getD_eq_getD_getElem?] at h
  rw [← h]
  show (match a.tmps[t]? with | some (.bool b) => some b | _ => none) = _
  cases a.tmps[t]? with
  | none => rfl
  | some v => cases v <;> rfl

theorem Inv.left {M : List Item} {w : World} (h : Inv base (O ++ M) w) : Inv base O w := h.sub (List.sublist_append_left O M)

theorem LT.of_quiet {o : Oper} {d : Nat} {v : Value} {K : Env → List Item → Prop} (hd : o.dst = some d) (hn : Nat.blt d n = true) (h : QT P base o ρ O v) (hk : K (upd ρ d v) O) : LT P r base n o ρ O K := by
  intro a w M ds ha hi next Qx hnext
  have hr := h w hi.left
  rw [← ha.eval] at hr
  refine wpIn_Fr (notDefer hr (by simp)) ?_
  rw [hr]
  show next (a.put o.dst v) w
  rw [hd]
  exact hnext _ _ _ _ (ha.put hn v) hi hk

theorem TO.loud {ops : Array Oper} {l : List Oper} {K : Env → List Item → Prop} {o : Oper} (hg : o.guard = none)
    (h : LT P r base n o ρ O (fun ρ' O' => TO P r base n ops l K ρ' O')) : TO P r base n ops (o :: l) K ρ O :=
  fun Q a w M D hk ha hi => wpListIn_plain hg fun next hnext => h a w _ _ ha hi next _ fun a' _ _ w' h1 h2 h3 => hnext a' w' (h3 Q a' w' M D hk h1 h2)

theorem TO.quiet {ops : Array Oper} {l : List Oper} {K : Env → List Item → Prop} {d : Nat} {op : Op} {t : TypeId} {p : String} {af : Array Edge} {v : Value}
    (h : QT P base ⟨some d, op, t, p, af, none⟩ ρ O v) (hk : TO P r base n ops l K (upd ρ d v) O) (hn : Nat.blt d n = true := by rfl) : TO P r base n ops (⟨some d, op, t, p, af, none⟩ :: l) K ρ O :=
  TO.loud rfl (LT.of_quiet rfl hn h hk)

/-- A guarded operation whose guard holds. -/
theorem TO.guarded {ops : Array Oper} {l : List Oper} {K : Env → List Item → Prop} {o : Oper} {j tj : Nat} {want : Bool} (hg : o.guard = some (j, want))
    (hj : (ops[j]?).bind (·.dst) = some tj) (hw : ρ tj = .bool want)
    (h : LT P r base n o ρ O (fun ρ' O' => TO P r base n ops l K ρ' O')) : TO P r base n ops (o :: l) K ρ O := by
  intro Q a w M D hk ha hi
  refine wpListIn_step fun next hnext => ?_
  have hy := yielded_eq (ops := ops) ha hj
  rw [hw] at hy
  have hwant : Region.wanted o (yielded ops a.tmps) = true := by unfold Region.wanted; rw [hg]; simp [hy, yOf]
  rw [if_pos hwant]
  exact h a w _ _ ha hi next _ fun a' _ _ w' h1 h2 h3 => hnext a' w' (h3 Q a' w' M D hk h1 h2)

/-- A guarded operation whose guard does not hold: it is passed over. -/
theorem TO.passed {ops : Array Oper} {l : List Oper} {K : Env → List Item → Prop} {d : Nat} {op : Op} {t : TypeId} {p : String} {af : Array Edge} {j tj : Nat} {want : Bool}
    (hj : (ops[j]?).bind (·.dst) = some tj) (hw : (yOf (ρ tj) == some want) = false) (hk : TO P r base n ops l K (upd ρ d undef) O) (hn : Nat.blt d n = true := by rfl) :
    TO P r base n ops (⟨some d, op, t, p, af, some (j, want)⟩ :: l) K ρ O := by
  intro Q a w M D hq ha hi
  refine wpListIn_step fun next hnext => ?_
  have hy := yielded_eq (ops := ops) ha hj
  have hwant : Region.wanted ⟨some d, op, t, p, af, some (j, want)⟩ (yielded ops a.tmps) = false := by unfold Region.wanted; simp only [hy]; exact hw
  rw [hwant]
  exact ⟨fun _ _ => trivial, hnext _ _ (hk Q _ _ M D hq (ha.put hn undef) hi)⟩

/-- A guarded operation without a result, passed over. -/
theorem TO.passed0 {ops : Array Oper} {l : List Oper} {K : Env → List Item → Prop} {op : Op} {t : TypeId} {p : String} {af : Array Edge} {j tj : Nat} {want : Bool}
    (hj : (ops[j]?).bind (·.dst) = some tj) (hw : (yOf (ρ tj) == some want) = false) (hk : TO P r base n ops l K ρ O) :
    TO P r base n ops (⟨none, op, t, p, af, some (j, want)⟩ :: l) K ρ O := by
  intro Q a w M D hq ha hi
  refine wpListIn_step fun next hnext => ?_
  have hy := yielded_eq (ops := ops) ha hj
  have hwant : Region.wanted ⟨none, op, t, p, af, some (j, want)⟩ (yielded ops a.tmps) = false := by unfold Region.wanted; simp only [hy]; exact hw
  rw [hwant]
  exact ⟨fun _ _ => trivial, hnext _ _ (hk Q _ _ M D hq ha hi)⟩

end rules
end Go.Lx

/- Contracts of functions of the program (CoreA, CoreB, CoreC, CoreD, CoreE, CoreF, CoreG, CoreH, CoreI, Dec, CoreT, CoreJ, CoreK): what each call answers and that it leaves memory as it was. Conditions: those each theorem names. -/
import Derived.WalkKit
import Derived.Below
import Derived.Orders
import Derived.Calls
import Derived.Control
import Derived.RangeFuncNested
import Derived.TacticsIn
import Derived.OrdersIn
import Derived.Lib.ItoaNum
import Derived.Shelf.Strconv.Itoa3
import Derived.Lib.AppendIntMem
import Derived.Lib.TrailingZeros
import Derived.Maps.RangeRun
set_option linter.unusedSectionVars false
set_option linter.unusedSimpArgs false
set_option linter.unusedVariables false
set_option linter.unnecessarySimpa false
set_option maxHeartbeats 8000000
set_option maxRecDepth 20000
namespace Go.Lx
open Go.RowKit
abbrev Env := Nat → Value
def upd (ρ : Env) (d : Nat) (v : Value) : Env := fun t => match Nat.beq t d with
 | true => v
 | false => ρ t
def ev (ρ : Env) : Operand → Value
 | .tmp t => ρ t
 | .const v => v
 | .global g => .pointer (some ⟨g, 0, none⟩)
 | .func f => .func (.func f) #[] #[]
def evs (ρ : Env) : List Operand → List Value
 | [] => []
 | x :: l => ev ρ x :: evs ρ l
theorem evs_eq (ρ : Env) (l : List Operand) : evs ρ l = l.map (ev ρ) := by
 induction l with
 | nil => rfl
 | cons x l ih => simp [evs, ih]
structure Ag (n : Nat) (ds : List Deferred) (a : Act) (ρ : Env) : Prop where
 tmp : ∀ t, a.tmps.getD t undef = ρ t
 size : a.tmps.size = n
 defers : a.defers = ds
theorem Ag.eval {n : Nat} {ds : List Deferred} {a : Act} {ρ : Env} (h : Ag n ds a ρ) : a.eval = ev ρ := by
 funext x
 cases x with
 | tmp t => exact h.tmp t
 | _ => rfl
theorem Ag.put {n : Nat} {ds : List Deferred} {a : Act} {ρ : Env} (h : Ag n ds a ρ) {d : Nat} (hd : Nat.blt d n = true) (v : Value) : Ag n ds (a.put (some d) v) (upd ρ d v) := by
 have hd' : d < a.tmps.size := by rw [h.size]; rw [Nat.blt_eq] at hd; exact hd
 refine ⟨fun t => ?_, by simp [Act.put, h.size], by simp [Act.put, h.defers]⟩
 have ht := h.tmp t
 simp only [Act.put, upd]
 by_cases e : t = d
 ·subst e
  have hb : Nat.beq t t = true := Nat.beq_refl t
  rw [hb]
  simp [Array.getD_eq_getD_getElem?, hd']
 ·have hb : Nat.beq t d = false := by
   rcases h' : Nat.beq t d with _ | _
   ·rfl
   ·exact absurd (Nat.eq_of_beq_eq_true h') e
  rw [hb]
  simp only [Array.getD_eq_getD_getElem?] at ht ⊢
  rw [Array.getElem?_setIfInBounds_ne (Ne.symm e)]
  exact ht
structure Item where
 blocks : List Nat
 P : World → Prop
 loc : ∀ w w' : World, (∀ b ∈ blocks, w'.heap[b]? = w.heap[b]?) → P w → P w'
def objI (b : Nat) (o : Obj) : Item := ⟨[b], fun w => w.heap[b]? = some o, fun w w' h hp => by rw [h b (by simp)]; exact hp⟩
abbrev oI (b : Nat) (T : TypeId) (cs : List Value) : Item := objI b (.cells cs.toArray T (0, 0))
structure Inv (base : World) (O : List Item) (w : World) : Prop where
 below : Below base.heap.size base w
 holds : ∀ it ∈ O, it.P w
 fresh : ∀ it ∈ O, ∀ b ∈ it.blocks, base.heap.size ≤ b ∧ b < w.heap.size
 nodup : (O.flatMap Item.blocks).Nodup
theorem Inv.refl (w : World) : Inv w [] w := ⟨Below.refl _ _, by simp, by simp, by simp⟩
theorem Inv.same {base : World} {O : List Item} {w w' : World} (h : Inv base O w) (hh : w'.heap = w.heap) (ho : w'.os = w.os) (ht : w'.tape = w.tape) (hp : w'.output = w.output) : Inv base O w' := by
 refine ⟨⟨ho.trans h.below.os, ht.trans h.below.tape, hp.trans h.below.output, by rw [hh]; exact h.below.size, fun k hk => by rw [hh]; exact h.below.block k hk⟩, fun it hi => it.loc w w' (fun b _ => by rw [hh]) (h.holds it hi), fun it hi b hb => by rw [hh]; exact h.fresh it hi b hb, h.nodup⟩
theorem Inv.drew {base : World} {O : List Item} {w : World} (h : Inv base O w) : Inv base O w.drew := h.same rfl rfl rfl rfl
theorem Inv.drawn {base : World} {O : List Item} {w : World} (h : Inv base O w) (n : Nat) : Inv base O { w with drawn := n } := h.same rfl rfl rfl rfl
theorem flatMap_sublist {O O' : List Item} (h : O'.Sublist O) : (O'.flatMap Item.blocks).Sublist (O.flatMap Item.blocks) := by
 induction h with
 | slnil => exact List.Sublist.refl _
 | cons a _ ih => exact ih.trans (by simp [List.flatMap_cons])
 | cons_cons a _ ih => simp only [List.flatMap_cons]; exact (List.Sublist.refl _).append ih
theorem Inv.sub {base : World} {O O' : List Item} {w : World} (h : Inv base O w) (hs : O'.Sublist O) : Inv base O' w :=
 ⟨h.below, fun it hi => h.holds it (hs.subset hi), fun it hi => h.fresh it (hs.subset hi), (flatMap_sublist hs).nodup h.nodup⟩
theorem Inv.perm {base : World} {O O' : List Item} {w : World} (h : Inv base O w) (hs : O'.Perm O) : Inv base O' w :=
 ⟨h.below, fun it hi => h.holds it (hs.mem_iff.1 hi), fun it hi => h.fresh it (hs.mem_iff.1 hi), ((hs.flatMap_right Item.blocks).nodup_iff).2 h.nodup⟩
def Sub (O' O : List Item) : Prop := ∃ l, O'.Perm l ∧ l.Sublist O
theorem Sub.of {O' O : List Item} (h : O'.Sublist O) : Sub O' O := ⟨O', List.Perm.refl _, h⟩
theorem Inv.subp {base : World} {O O' : List Item} {w : World} (h : Inv base O w) (hs : Sub O' O) : Inv base O' w := by
 obtain ⟨l, hp, hsub⟩ := hs
 exact (h.sub hsub).perm hp
theorem Inv.call {base : World} {O O' : List Item} {w w' : World} (h : Inv base O w) (h' : Inv w O' w') : Inv base (O' ++ O) w' := by
 have hkeep : ∀ b, b < w.heap.size → w'.heap[b]? = w.heap[b]? := h'.below.block
 refine ⟨?_, ?_, ?_, ?_⟩
 ·exact h.below.trans (h'.below.mono h.below.size)
 ·intro it hi
  rcases List.mem_append.1 hi with hi | hi
  ·exact h'.holds it hi
  ·exact it.loc w w' (fun b hb => hkeep b (h.fresh it hi b hb).2) (h.holds it hi)
 ·intro it hi b hb
  rcases List.mem_append.1 hi with hi | hi
  ·have := h'.fresh it hi b hb
   exact ⟨Nat.le_trans h.below.size this.1, this.2⟩
  ·have := h.fresh it hi b hb
   exact ⟨this.1, Nat.lt_of_lt_of_le this.2 h'.below.size⟩
 ·rw [List.flatMap_append, List.nodup_append]
  refine ⟨h'.nodup, h.nodup, fun x hx y hy e => ?_⟩
  obtain ⟨i, hi, hxi⟩ := List.mem_flatMap.1 hx
  obtain ⟨j, hj, hyj⟩ := List.mem_flatMap.1 hy
  have h1 := (h'.fresh i hi x hxi).1
  have h2 := (h.fresh j hj y hyj).2
  omega
theorem Inv.step {base : World} {A B N : List Item} {it : Item} {w w' : World} (h : Inv base (A ++ it :: B) w)
  (ho : w'.os = w.os) (ht : w'.tape = w.tape) (hp : w'.output = w.output) (hs : w.heap.size ≤ w'.heap.size)
  (hb : ∀ b, b < w.heap.size → b ∉ it.blocks → w'.heap[b]? = w.heap[b]?)
  (hN : ∀ x ∈ N, x.P w') (hf : ∀ x ∈ N, ∀ b ∈ x.blocks, b ∈ it.blocks ∨ (w.heap.size ≤ b ∧ b < w'.heap.size)) (hn : (N.flatMap Item.blocks).Nodup) :
  Inv base (A ++ N ++ B) w' := by
 have hmem : ∀ x ∈ A ++ B, x ∈ A ++ it :: B := fun x hx => by
  rcases List.mem_append.1 hx with h | h <;> simp [h]
 have hnd : (A.flatMap Item.blocks ++ (it.blocks ++ B.flatMap Item.blocks)).Nodup := by
  have := h.nodup; simpa [List.flatMap_append, List.flatMap_cons] using this
 have hsep : ∀ x ∈ A ++ B, ∀ b ∈ x.blocks, b ∉ it.blocks := by
  intro x hx b hb hi
  rw [List.nodup_append] at hnd
  obtain ⟨_, h2, h3⟩ := hnd
  rw [List.nodup_append] at h2
  rcases List.mem_append.1 hx with hx | hx
  ·exact h3 b (List.mem_flatMap.2 ⟨x, hx, hb⟩) b (List.mem_append.2 (.inl hi)) rfl
  ·exact h2.2.2 b hi b (List.mem_flatMap.2 ⟨x, hx, hb⟩) rfl
 have hits : ∀ b ∈ it.blocks, base.heap.size ≤ b ∧ b < w.heap.size := h.fresh it (by simp)
 refine ⟨?_, ?_, ?_, ?_⟩
 ·refine ⟨ho.trans h.below.os, ht.trans h.below.tape, hp.trans h.below.output, Nat.le_trans h.below.size hs, fun k hk => ?_⟩
  rw [hb k (Nat.lt_of_lt_of_le hk h.below.size) (fun hi => by have := (hits k hi).1; omega)]
  exact h.below.block k hk
 ·intro x hx
  rcases List.mem_append.1 hx with hx | hx
  ·rcases List.mem_append.1 hx with hx | hx
   ·have hx' : x ∈ A ++ B := by simp [hx]
    exact x.loc w w' (fun b hb' => hb b (h.fresh x (hmem x hx') b hb').2 (hsep x hx' b hb')) (h.holds x (hmem x hx'))
   ·exact hN x hx
  ·have hx' : x ∈ A ++ B := by simp [hx]
   exact x.loc w w' (fun b hb' => hb b (h.fresh x (hmem x hx') b hb').2 (hsep x hx' b hb')) (h.holds x (hmem x hx'))
 ·intro x hx b hb'
  rcases List.mem_append.1 hx with hx | hx
  ·rcases List.mem_append.1 hx with hx | hx
   ·have hx' : x ∈ A ++ B := by simp [hx]
    have := h.fresh x (hmem x hx') b hb'
    exact ⟨this.1, Nat.lt_of_lt_of_le this.2 hs⟩
   ·rcases hf x hx b hb' with h1 | h1
    ·exact ⟨(hits b h1).1, Nat.lt_of_lt_of_le (hits b h1).2 hs⟩
    ·exact ⟨Nat.le_trans h.below.size h1.1, h1.2⟩
  ·have hx' : x ∈ A ++ B := by simp [hx]
   have := h.fresh x (hmem x hx') b hb'
   exact ⟨this.1, Nat.lt_of_lt_of_le this.2 hs⟩
 ·have hsepN : ∀ x ∈ A ++ B, ∀ b ∈ x.blocks, ∀ y ∈ N, b ∉ y.blocks := by
   intro x hx b hb' y hy hby
   rcases hf y hy b hby with h1 | h1
   ·exact hsep x hx b hb' h1
   ·have := (h.fresh x (hmem x hx) b hb').2; omega
  simp only [List.flatMap_append]
  rw [List.nodup_append] at hnd
  obtain ⟨h1, h2, h3⟩ := hnd
  rw [List.nodup_append] at h2
  obtain ⟨_, h5, _⟩ := h2
  rw [List.nodup_append]
  refine ⟨?_, h5, ?_⟩
  ·rw [List.nodup_append]
   refine ⟨h1, hn, fun x hx y hy e => ?_⟩
   subst e
   obtain ⟨i, hi, hxi⟩ := List.mem_flatMap.1 hx
   obtain ⟨j, hj, hyj⟩ := List.mem_flatMap.1 hy
   exact hsepN i (by simp [hi]) x hxi j hj hyj
  ·intro x hx y hy e
   subst e
   rcases List.mem_append.1 hx with hx | hx
   ·exact h3 x hx x (List.mem_append.2 (.inr hy)) rfl
   ·obtain ⟨i, hi, hxi⟩ := List.mem_flatMap.1 hx
    obtain ⟨j, hj, hyj⟩ := List.mem_flatMap.1 hy
    exact hsepN j (by simp [hj]) x hyj i hi hxi
theorem split_at {O : List Item} {i : Nat} {it : Item} (h : O[i]? = some it) : ∃ A B, O = A ++ it :: B ∧ ∀ x, O.set i x = A ++ x :: B := by
 induction O generalizing i with
 | nil => simp at h
 | cons y O ih =>
  cases i with
  | zero => simp at h; subst h; exact ⟨[], O, rfl, fun x => rfl⟩
  | succ i =>
   obtain ⟨A, B, e, hset⟩ := ih (i := i) (by simpa using h)
   exact ⟨y :: A, B, by rw [e]; rfl, fun x => by simp [hset x]⟩
theorem Inv.stepAt {base : World} {O : List Item} {i : Nat} {it it' : Item} {w w' : World} (h : Inv base O w) (hi : O[i]? = some it)
  (ho : w'.os = w.os) (ht : w'.tape = w.tape) (hp : w'.output = w.output) (hs : w.heap.size ≤ w'.heap.size)
  (hb : ∀ b, b < w.heap.size → b ∉ it.blocks → w'.heap[b]? = w.heap[b]?)
  (hN : it'.P w') (hf : ∀ b ∈ it'.blocks, b ∈ it.blocks ∨ (w.heap.size ≤ b ∧ b < w'.heap.size)) (hn : it'.blocks.Nodup) :
  Inv base (O.set i it') w' := by
 obtain ⟨A, B, e, hset⟩ := split_at hi
 subst e
 rw [hset it']
 have := Inv.step (N := [it']) h ho ht hp hs hb (by simpa using hN) (by simpa using hf) (by simpa using hn)
 simpa using this
theorem Inv.new {base : World} {O N : List Item} {w w' : World} (h : Inv base O w)
  (ho : w'.os = w.os) (ht : w'.tape = w.tape) (hp : w'.output = w.output) (hs : w.heap.size ≤ w'.heap.size)
  (hb : ∀ b, b < w.heap.size → w'.heap[b]? = w.heap[b]?)
  (hN : ∀ x ∈ N, x.P w') (hf : ∀ x ∈ N, ∀ b ∈ x.blocks, w.heap.size ≤ b ∧ b < w'.heap.size) (hn : (N.flatMap Item.blocks).Nodup) :
  Inv base (N ++ O) w' :=
 h.call ⟨⟨ho, ht, hp, hs, hb⟩, hN, hf, hn⟩
theorem Inv.alloc {base : World} {O : List Item} {w : World} (h : Inv base O w) (o : Obj) : Inv base (objI w.heap.size o :: O) (w.alloc o) := by
 refine Inv.new (N := [objI w.heap.size o]) h rfl rfl rfl (by simp) (fun b hb => Below.heap_alloc w o b hb) ?_ ?_ ?_
 ·intro x hx
  simp at hx; subst hx
  show (w.heap.push o)[w.heap.size]? = some o
  simp
 ·intro x hx b hb
  simp at hx; subst hx
  simp [objI] at hb; subst hb
  simp
 ·simp [objI]
def Fr (r : Option Nat) : Fence := { Fence.wide with round := r }
def markD (b : Nat) : Deferred := { target := .collected b, args := #[] }
def markI (b : Nat) : Item := objI b (.deferred (some []))
abbrev mD (D : List Nat) : List Deferred := D.map markD
abbrev mI (D : List Nat) : List Item := D.map markI
def MOk : Option Nat → List Item → Prop
 | none, _ => True
 | some l, M => ∃ it ∈ M, ∀ w, it.P w → ∃ rc, w.heap[l]? = some (.loop rc)
abbrev Post := Exit → Env → List Item → Prop
def lift (base : World) (n : Nat) (M : List Item) (Q : Post) : Exit → Act → World → Prop := fun e a w => ∃ ρ O D, Ag n (mD D) a ρ ∧ Inv base (O ++ (mI D ++ M)) w ∧ Q e ρ O
def T (P : Program) (r : Option Nat) (base : World) (n : Nat) (c : Code) (Q : Post) (ρ : Env) (O : List Item) : Prop :=
 ∀ a w M D, MOk r M → Ag n (mD D) a ρ → Inv base (O ++ (mI D ++ M)) w → c.wpIn (Fr r) 0 P (lift base n M Q) a w
def thn (K : Env → List Item → Prop) (Q : Post) : Post
 | .normal, ρ, O => K ρ O
 | e, ρ, O => Q e ρ O
def inB (id : Nat) (Q : Post) : Post
 | .exit id', ρ, O => match Nat.beq id' id with
  | true => Q .normal ρ O
  | false => Q (.exit id') ρ O
 | e, ρ, O => Q e ρ O
section rules
variable {P : Program} {r : Option Nat} {base : World} {n : Nat} {Q : Post} {ρ : Env} {O : List Item}
theorem T.mono {c : Code} {Q' : Post} (h : T P r base n c Q ρ O) (hq : ∀ e ρ O, Q e ρ O → Q' e ρ O) : T P r base n c Q' ρ O :=
 fun a w M D hM ha hi => wpIn_mono (h a w M D hM ha hi) (fun e _ _ ⟨ρ, O, D, h1, h2, h3⟩ => ⟨ρ, O, D, h1, h2, hq e ρ O h3⟩)
theorem T.skip (h : Q .normal ρ O) : T P r base n .skip Q ρ O := fun _ _ _ D _ ha hi => wpIn_skip ⟨ρ, O, D, ha, hi, h⟩
theorem T.label {l : Nat} (h : Q .normal ρ O) : T P r base n (.label l) Q ρ O := fun _ _ _ D _ ha hi => wpIn_label ⟨ρ, O, D, ha, hi, h⟩
theorem T.exit {id : Nat} (h : Q (.exit id) ρ O) : T P r base n (.exit id) Q ρ O := fun _ _ _ D _ ha hi => wpIn_exit ⟨ρ, O, D, ha, hi, h⟩
theorem T.ret (h : Q .ret ρ O) : T P r base n .ret Q ρ O := fun _ _ _ D _ ha hi => wpIn_ret ⟨ρ, O, D, ha, hi, h⟩
theorem T.s {x y : Code} (h : T P r base n x (thn (fun ρ O => T P r base n y Q ρ O) Q) ρ O) : T P r base n (.seq x y) Q ρ O := by
 intro a w M D hM ha hi
 refine wpIn_seq (wpIn_mono (h a w M D hM ha hi) ?_)
 rintro e a' w' ⟨ρ', O', D', h1, h2, h3⟩
 cases e with
 | normal => exact h3 a' w' M D' hM h1 h2
 | _ => exact ⟨ρ', O', D', h1, h2, h3⟩
theorem T.cut {x y : Code} (K : Env → List Item → Prop) (h : T P r base n x (thn K Q) ρ O) (hk : ∀ ρ O, K ρ O → T P r base n y Q ρ O) : T P r base n (.seq x y) Q ρ O :=
 T.s (h.mono fun e ρ O h => by cases e <;> first | exact hk ρ O h | exact h)
theorem T.cond {c : Operand} {x y : Code} {t : Bool} (hc : ev ρ c = .bool t) (h1 : t = true → T P r base n x Q ρ O) (h0 : t = false → T P r base n y Q ρ O) : T P r base n (.cond c x y) Q ρ O := by
 intro a w M D hM ha hi
 refine wpIn_cond (t := t) (by rw [ha.eval]; exact hc) ?_
 cases t
 ·exact h0 rfl a w M D hM ha hi
 ·exact h1 rfl a w M D hM ha hi
theorem T.cond1 {c : Operand} {x y : Code} (hc : ev ρ c = .bool true) (h : T P r base n x Q ρ O) : T P r base n (.cond c x y) Q ρ O :=
 T.cond hc (fun _ => h) (fun e => by cases e)
theorem T.cond0 {c : Operand} {x y : Code} (hc : ev ρ c = .bool false) (h : T P r base n y Q ρ O) : T P r base n (.cond c x y) Q ρ O :=
 T.cond hc (fun e => by cases e) (fun _ => h)
theorem T.condP {c : Operand} {x y : Code} {p : Prop} [Decidable p] (hc : ev ρ c = .bool (decide p)) (h1 : p → T P r base n x Q ρ O) (h0 : ¬ p → T P r base n y Q ρ O) : T P r base n (.cond c x y) Q ρ O :=
 T.cond hc (fun e => h1 (of_decide_eq_true e)) (fun e => h0 (of_decide_eq_false e))
theorem T.block {id : Nat} {c : Code} (h : T P r base n c (inB id Q) ρ O) : T P r base n (.block id c) Q ρ O := by
 intro a w M D hM ha hi
 refine wpIn_block (wpIn_mono (h a w M D hM ha hi) ?_)
 rintro e a' w' ⟨ρ', O', D', h1, h2, h3⟩
 cases e with
 | exit id' =>
  simp only [Exit.inBlock]
  simp only [inB] at h3
  by_cases e : id' = id
  ·subst e
   rw [if_pos rfl]
   rw [Nat.beq_refl] at h3
   exact ⟨ρ', O', D', h1, h2, h3⟩
  ·rw [if_neg e]
   have hb : Nat.beq id' id = false := by
    rcases h' : Nat.beq id' id with _ | _
    ·rfl
    ·exact absurd (Nat.eq_of_beq_eq_true h') e
   rw [hb] at h3
   exact ⟨ρ', O', D', h1, h2, h3⟩
 | _ => exact ⟨ρ', O', D', h1, h2, h3⟩
theorem T.loop {c : Code} {α : Type} (I : α → Env → List Item → Prop) (μ : α → Nat) (s : α) (h0 : I s ρ O)
  (h : ∀ s ρ O, I s ρ O → T P r base n c (thn (fun ρ' O' => ∃ s', μ s' < μ s ∧ I s' ρ' O') Q) ρ O) : T P r base n (.loop c) Q ρ O := by
 have key : ∀ (m : Nat) (s : α) (ρ : Env) (O : List Item) (a : Act) (w : World) (M : List Item) (D : List Nat), μ s = m → I s ρ O → MOk r M → Ag n (mD D) a ρ → Inv base (O ++ (mI D ++ M)) w →
   ∀ (b : Frame) (k : List Go.Item) (cs : List Frame), b.roundOf = (Fr r).round → (Fr r).fn b.fn → (Fr r).room (cs.length + 1 + 0) →
    ∃ e a' w', lift base n M Q e a' w' ∧ ArrivesIn (Machine.fenced P (Fr r)) P (lone (b.atR a (.code c :: .inLoop c :: k)) cs w) b k cs e a' w' := by
  intro m
  induction m using Nat.strongRecOn with
  | _ m ih =>
   intro s ρ O a w M D hm hI hM ha hi b k cs hro hb hr
   obtain ⟨e, a₁, w₁, hq, harr⟩ := h s ρ O hI a w M D hM ha hi b (.inLoop c :: k) cs hro hb hr
   obtain ⟨ρ₁, O₁, D₁, ha₁, hi₁, hq⟩ := hq
   cases e with
   | normal =>
    obtain ⟨s', hlt, hI'⟩ := hq
    obtain ⟨e₂, a₂, w₂, hq₂, harr₂⟩ := ih (μ s') (hm ▸ hlt) s' ρ₁ O₁ a₁ w₁ M D₁ rfl hI' hM ha₁ hi₁ b k cs hro hb hr
    exact ⟨e₂, a₂, w₂, hq₂, .of_steps (StepsIn.trans harr (.one (fenced_calm hb hr rfl) stepR_inLoop)) harr₂⟩
   | exit id => exact ⟨_, a₁, w₁, ⟨ρ₁, O₁, D₁, ha₁, hi₁, hq⟩, .pass (x := .inLoop c) rfl (fun _ _ => .inl (by simp)) harr⟩
   | goto l => exact ⟨_, a₁, w₁, ⟨ρ₁, O₁, D₁, ha₁, hi₁, hq⟩, .pass (x := .inLoop c) rfl (fun _ _ => .inl (by simp)) harr⟩
   | ret => exact ⟨_, a₁, w₁, ⟨ρ₁, O₁, D₁, ha₁, hi₁, hq⟩, .pass (x := .inLoop c) rfl (fun _ _ => .inl (by simp)) harr⟩
   | panic ch => exact ⟨_, a₁, w₁, ⟨ρ₁, O₁, D₁, ha₁, hi₁, hq⟩, .pass (x := .inLoop c) rfl (fun _ _ => .inl (by simp)) harr⟩
   | outgrown => exact ⟨_, a₁, w₁, ⟨ρ₁, O₁, D₁, ha₁, hi₁, hq⟩, .pass (x := .inLoop c) rfl (fun _ _ => .inl (by simp)) harr⟩
 intro a w M D hM ha hi b k cs hro hb hr
 obtain ⟨e, a', w', hq, harr⟩ := key _ s ρ O a w M D rfl h0 hM ha hi b k cs hro hb hr
 exact ⟨e, a', w', hq, .of_steps (.one (fenced_calm hb hr rfl) stepR_loop) harr⟩
theorem stepR_scope {b : Frame} {a : Act} {k : List Go.Item} {cs : List Frame} {w : World} {c : Code} : step P (lone (b.atR a (.code (.scope c) :: k)) cs w) = .next (lone (b.atR a (.code c :: .inScope c :: k)) cs w) :=
 step_lone_go (by simp [stepG, stepG.exec, Frame.atR])
theorem stepR_inScope {b : Frame} {a : Act} {k : List Go.Item} {cs : List Frame} {w : World} {c : Code} : step P (lone (b.atR a (.inScope c :: k)) cs w) = .next (lone (b.atR a k) cs w) :=
 step_lone_go (by simp [stepG, stepG.exec, Frame.atR])
theorem T.scope {c : Code} (h : T P r base n c Q ρ O) (hg : ∀ l ρ O, ¬ Q (.goto l) ρ O) : T P r base n (.scope c) Q ρ O := by
 intro a w M D hM ha hi b k cs hro hb hr
 obtain ⟨e, a₁, w₁, hq, harr⟩ := h a w M D hM ha hi b (.inScope c :: k) cs hro hb hr
 have h0 : (lone (b.atR a (.code (.scope c) :: k)) cs w).fenced P (Fr r) := fenced_calm hb hr rfl
 cases e with
 | normal => exact ⟨.normal, a₁, w₁, hq, .head h0 stepR_scope (StepsIn.trans harr (.one (fenced_calm hb hr rfl) stepR_inScope))⟩
 | exit id =>
  have hx : exitTo id (.inScope c :: k) = exitTo id k := by simp [exitTo]
  exact ⟨.exit id, a₁, w₁, hq, fun k' hk => .head h0 stepR_scope (harr.1 k' (by rw [hx]; exact hk)),
   fun hr' hk => let ⟨k₁, h1, h2⟩ := harr.2 hr' (by rw [hx]; exact hk); ⟨k₁, h1, .head h0 stepR_scope h2⟩⟩
 | goto l => obtain ⟨ρ', O', D', _, _, h3⟩ := hq; exact (hg l ρ' O' h3).elim
 | ret => exact ⟨_, a₁, w₁, hq, .of_steps (.one h0 stepR_scope) harr⟩
 | panic ch => exact ⟨_, a₁, w₁, hq, .of_steps (.one h0 stepR_scope) harr⟩
 | outgrown => exact ⟨_, a₁, w₁, hq, .of_steps (.one h0 stepR_scope) harr⟩
def QT (P : Program) (base : World) (o : Oper) (ρ : Env) (O : List Item) (v : Value) : Prop :=
 ∀ w, Inv base O w → (execOp (ev ρ) o).run P w = .ok (.value v) w
def LT (P : Program) (r : Option Nat) (base : World) (n : Nat) (o : Oper) (ρ : Env) (O : List Item) (K : Env → List Item → Prop) : Prop :=
 ∀ a w M ds, Ag n ds a ρ → Inv base (O ++ M) w → ∀ (next : Act → World → Prop) (Qx : Exit → Act → World → Prop),
  (∀ a' ρ' O' w', Ag n ds a' ρ' → Inv base (O' ++ M) w' → K ρ' O' → next a' w') → o.wpIn (Fr r) 0 P a w next Qx
theorem wpIn_Fr {o : Oper} {a : Act} {w : World} {next : Act → World → Prop} {Qx : Exit → Act → World → Prop} (hd : ∀ c, o.op ≠ .defer c)
  (h : o.uponIn (Fr r) 0 P a next Qx ((execOp a.eval o).run P w)) : o.wpIn (Fr r) 0 P a w next Qx :=
 ⟨fun _ _ => trivial, by rw [Oper.semAt_eq _ _ _ hd]; exact h⟩
theorem notDefer {o : Oper} {e : Operand → Value} {w : World} {x : Next} {w' : World} (h : (execOp e o).run P w = .ok x w') (hx : ∀ d, x ≠ .defer d) : ∀ c, o.op ≠ .defer c := by
 intro c ec
 unfold execOp at h
 simp only [ec] at h
 rw [Sem.run_bind] at h
 cases hr : (resolve e c o.type).run P w with
 | ok d w1 => rw [hr] at h; simp [Result.andThen] at h; exact hx _ h.1.symm
 | halt y w1 => rw [hr] at h; simp [Result.andThen] at h
def TO (P : Program) (r : Option Nat) (base : World) (n : Nat) (ops : Array Oper) (l : List Oper) (K : Env → List Item → Prop) (ρ : Env) (O : List Item) : Prop :=
 ∀ (Q : Post) a w M D, (∀ ρ O, K ρ O → Q .normal ρ O) → Ag n (mD D) a ρ → Inv base (O ++ (mI D ++ M)) w → wpListIn (Fr r) 0 P ops (lift base n M Q) l a w
theorem T.rg {id : Nat} {l : List Oper} (h : TO P r base n l.toArray l (fun ρ O => Q .normal ρ O) ρ O) : T P r base n (.region id l.toArray false) Q ρ O :=
 fun a w M D _ ha hi => wpIn_region_lit (h Q a w M D (fun _ _ h => h) ha hi)
theorem TO.nl {ops : Array Oper} {K : Env → List Item → Prop} (h : K ρ O) : TO P r base n ops [] K ρ O :=
 fun _ _ _ _ D hk ha hi => wpListIn_nil ⟨ρ, O, D, ha, hi, hk _ _ h⟩
def yOf : Value → Option Bool
 | .bool b => some b
 | _ => none
theorem yielded_eq {a : Act} {ds : List Deferred} {ops : Array Oper} (ha : Ag n ds a ρ) {j t : Nat} (hj : (ops[j]?).bind (·.dst) = some t) : yielded ops a.tmps j = yOf (ρ t) := by
 have h := ha.tmp t
 unfold yielded
 rw [hj]
 rw [Array.getD_eq_getD_getElem?] at h
 rw [← h]
 show (match a.tmps[t]? with | some (.bool b) => some b | _ => none) = _
 cases a.tmps[t]? with
 | none => rfl
 | some v => cases v <;> rfl
theorem Inv.left {M : List Item} {w : World} (h : Inv base (O ++ M) w) : Inv base O w := h.sub (List.sublist_append_left O M)
theorem LT.oq {o : Oper} {d : Nat} {v : Value} {K : Env → List Item → Prop} (hd : o.dst = some d) (hn : Nat.blt d n = true) (h : QT P base o ρ O v) (hk : K (upd ρ d v) O) : LT P r base n o ρ O K := by
 intro a w M ds ha hi next Qx hnext
 have hr := h w hi.left
 rw [← ha.eval] at hr
 refine wpIn_Fr (notDefer hr (by simp)) ?_
 rw [hr]
 show next (a.put o.dst v) w
 rw [hd]
 exact hnext _ _ _ _ (ha.put hn v) hi hk
theorem TO.l {ops : Array Oper} {l : List Oper} {K : Env → List Item → Prop} {o : Oper} (hg : o.guard = none)
  (h : LT P r base n o ρ O (fun ρ' O' => TO P r base n ops l K ρ' O')) : TO P r base n ops (o :: l) K ρ O :=
 fun Q a w M D hk ha hi => wpListIn_plain hg fun next hnext => h a w _ _ ha hi next _ fun a' _ _ w' h1 h2 h3 => hnext a' w' (h3 Q a' w' M D hk h1 h2)
theorem TO.q {ops : Array Oper} {l : List Oper} {K : Env → List Item → Prop} {d : Nat} {op : Op} {t : TypeId} {p : String} {af : Array Edge} {v : Value}
  (h : QT P base ⟨some d, op, t, p, af, none⟩ ρ O v) (hk : TO P r base n ops l K (upd ρ d v) O) (hn : Nat.blt d n = true := by rfl) : TO P r base n ops (⟨some d, op, t, p, af, none⟩ :: l) K ρ O :=
 TO.l rfl (LT.oq rfl hn h hk)
theorem TO.gd {ops : Array Oper} {l : List Oper} {K : Env → List Item → Prop} {o : Oper} {j tj : Nat} {want : Bool} (hg : o.guard = some (j, want))
  (hj : (ops[j]?).bind (·.dst) = some tj) (hw : ρ tj = .bool want)
  (h : LT P r base n o ρ O (fun ρ' O' => TO P r base n ops l K ρ' O')) : TO P r base n ops (o :: l) K ρ O := by
 intro Q a w M D hk ha hi
 refine wpListIn_step fun next hnext => ?_
 have hy := yielded_eq (ops := ops) ha hj
 rw [hw] at hy
 have hwant : Region.wanted o (yielded ops a.tmps) = true := by unfold Region.wanted; rw [hg]; simp [hy, yOf]
 rw [if_pos hwant]
 exact h a w _ _ ha hi next _ fun a' _ _ w' h1 h2 h3 => hnext a' w' (h3 Q a' w' M D hk h1 h2)
theorem TO.pd {ops : Array Oper} {l : List Oper} {K : Env → List Item → Prop} {d : Nat} {op : Op} {t : TypeId} {p : String} {af : Array Edge} {j tj : Nat} {want : Bool}
  (hj : (ops[j]?).bind (·.dst) = some tj) (hw : (yOf (ρ tj) == some want) = false) (hk : TO P r base n ops l K (upd ρ d undef) O) (hn : Nat.blt d n = true := by rfl) :
  TO P r base n ops (⟨some d, op, t, p, af, some (j, want)⟩ :: l) K ρ O := by
 intro Q a w M D hq ha hi
 refine wpListIn_step fun next hnext => ?_
 have hy := yielded_eq (ops := ops) ha hj
 have hwant : Region.wanted ⟨some d, op, t, p, af, some (j, want)⟩ (yielded ops a.tmps) = false := by unfold Region.wanted; simp only [hy]; exact hw
 rw [hwant]
 exact ⟨fun _ _ => trivial, hnext _ _ (hk Q _ _ M D hq (ha.put hn undef) hi)⟩
end rules
end Go.Lx


namespace Go.Lx
open Go.RowKit
def noDeferB (ops : Array Oper) : Bool := ops.all fun o => match o.op with | .defer _ => false | _ => true
theorem noDefer_spec {ops : Array Oper} (h : noDeferB ops = true) {j : Nat} {o : Oper} (hj : ops[j]? = some o) : ∀ c, o.op ≠ .defer c := by
 intro c e
 unfold noDeferB at h
 rw [Array.all_eq_true'] at h
 have := h o (Array.mem_of_getElem? hj)
 rw [e] at this
 cases this
def anyC (P : Program) (r : Option Nat) (ops : Array Oper) (C : Array Bool → World → Prop) (Q : Exit → Act → World → Prop) : Nat → Array Bool → Act → World → Prop
 | 0, listed, a, w => Region.ready .any ops listed = [] ∧ Q .normal a w
 | fuel + 1, listed, a, w =>
  (Region.ready .any ops listed = [] → Q .normal a w) ∧
  ∀ i ∈ Region.ready .any ops listed, wpOpIn (Fr r) 0 P ops Q i (fun a' w' => C (listed.setIfInBounds i true) w' ∧ anyC P r ops C Q fuel (listed.setIfInBounds i true) a' w') a w
theorem wpAny_of_anyC {P : Program} {r : Option Nat} {ops : Array Oper} {C : Array Bool → World → Prop} {Q : Exit → Act → World → Prop} : ∀ (fuel : Nat) (listed : Array Bool) (a : Act) (w : World),
  anyC P r ops C Q fuel listed a w → wpAnyIn (Fr r) 0 P .any ops Q fuel listed a w
 | 0, _, _, _, h => h
 | fuel + 1, _, _, _, h => ⟨h.1, fun i hi => wpOpIn_mono (fun a' w' h' => wpAny_of_anyC fuel _ a' w' h'.2) (h.2 i hi)⟩
def closed (ops : Array Oper) (listed : Array Bool) : Prop := ∀ k o, listed.getD k false = true → ops[k]? = some o → ∀ e ∈ o.after, Region.binds .any e = true → listed.getD e.on false = true
theorem closed_start (ops : Array Oper) (m : Nat) : closed ops (Array.replicate m false) := fun k o h => by
 rw [Array.getD_eq_getD_getElem?, Array.getElem?_replicate] at h
 split at h <;> simp at h
theorem closed_step {ops : Array Oper} {listed : Array Bool} {i : Nat} (h : closed ops listed) (hi : i ∈ Region.ready .any ops listed) : closed ops (listed.setIfInBounds i true) := by
 intro k o hk ho e he hb
 obtain ⟨_, oi, hoi, hall⟩ := mem_ready.1 hi
 by_cases hki : i = k
 ·subst hki
  rw [ho] at hoi; cases hoi
  exact getD_set_true (hall e he hb)
 ·rw [getD_set_ne false hki] at hk
  exact getD_set_true (h k o hk ho e he hb)
def emask : List Edge → Nat
 | [] => 0
 | e :: l => (if Region.binds .any e = true then 1 <<< e.on else 0) ||| emask l
theorem emask_bit {k : Nat} : ∀ {l : List Edge}, (emask l).testBit k = true → ∃ e ∈ l, Region.binds .any e = true ∧ e.on = k
 | [], h => by simp [emask] at h
 | e :: l, h => by
  rw [emask, Nat.testBit_or, Bool.or_eq_true] at h
  rcases h with h | h
  ·by_cases hb : Region.binds .any e = true
   ·rw [if_pos hb, Nat.one_shiftLeft, Nat.testBit_two_pow, decide_eq_true_eq] at h
    exact ⟨e, by simp, hb, h⟩
   ·rw [if_neg hb] at h; simp at h
  ·obtain ⟨e', h1, h2⟩ := emask_bit h
   exact ⟨e', by simp [h1], h2⟩
def omaskAt (ops : Array Oper) (j : Nat) : Nat := match ops[j]? with
 | some o => emask o.after.toList
 | none => 0
theorem omaskAt_bit {ops : Array Oper} {j k : Nat} (h : (omaskAt ops j).testBit k = true) : ∃ o, ops[j]? = some o ∧ ∃ e ∈ o.after, Region.binds .any e = true ∧ e.on = k := by
 unfold omaskAt at h
 cases ho : ops[j]? with
 | none => rw [ho] at h; simp at h
 | some o =>
  rw [ho] at h
  obtain ⟨e, h1, h2⟩ := emask_bit h
  exact ⟨o, rfl, e, by simpa using h1, h2⟩
def closM (ops : Array Oper) : Nat → Nat → Nat
 | 0, m => m
 | j + 1, m => closM ops j (if m.testBit j = true then m ||| omaskAt ops j else m)
theorem closM_sub {ops : Array Oper} {listed : Array Bool} (hc : closed ops listed) : ∀ (n m : Nat), (∀ k, m.testBit k = true → listed.getD k false = true) → ∀ k, (closM ops n m).testBit k = true → listed.getD k false = true
 | 0, _, h => h
 | j + 1, m, h => by
  refine closM_sub hc j _ fun k hk => ?_
  by_cases hj : m.testBit j = true
  ·rw [if_pos hj, Nat.testBit_or, Bool.or_eq_true] at hk
   rcases hk with hk | hk
   ·exact h k hk
   ·obtain ⟨o, ho, e, he, hb, rfl⟩ := omaskAt_bit hk
    exact hc j o (h j hj) ho e he hb
  ·rw [if_neg hj] at hk; exact h k hk
def waitB (ops : Array Oper) (tl : List Nat) (i : Nat) : Bool := tl.all fun b => (closM ops ops.size (omaskAt ops b)).testBit i
theorem waitB_spec {ops : Array Oper} {tl : List Nat} {i : Nat} {listed : Array Bool} (ht : waitB ops tl i = true) (hc : closed ops listed) {b : Nat} (hb : b ∈ tl) (hr : b ∈ Region.ready .any ops listed) : listed.getD i false = true := by
 simp only [waitB, List.all_eq_true] at ht
 have h1 := ht b hb
 obtain ⟨_, o, ho, hall⟩ := mem_ready.1 hr
 refine closM_sub hc ops.size _ ?_ i h1
 intro q hq
 obtain ⟨o2, ho2, e, he, hb, rfl⟩ := omaskAt_bit hq
 rw [ho] at ho2; cases ho2
 exact hall e he hb
theorem waitB_done {ops : Array Oper} {tl : List Nat} {i : Nat} {listed : Array Bool} (ht : waitB ops tl i = true) (hc : closed ops listed) {b : Nat} (hb : b ∈ tl) (hl : listed.getD b false = true) : listed.getD i false = true := by
 simp only [waitB, List.all_eq_true] at ht
 have h1 := ht b hb
 refine closM_sub hc ops.size _ ?_ i h1
 intro q hq
 obtain ⟨o, ho, e, he, hb, rfl⟩ := omaskAt_bit hq
 exact hc b o hl ho e he hb
structure classT (base : World) (S : List Item) (tail : List Nat) (S2 : List Item) (tail2 : List Nat) (listed : Array Bool) (w : World) : Prop where
 emp : Inv base [] w
 one : (tail.any fun b => listed.getD b false) = true ∨ Inv base S w
 two : (tail2.any fun b => listed.getD b false) = true ∨ Inv base S2 w
theorem any_keep {tail : List Nat} {listed : Array Bool} {i : Nat} (hi : i ∉ tail) (h : (tail.any fun b => (listed.setIfInBounds i true).getD b false) = true) : (tail.any fun b => listed.getD b false) = true := by
 rw [List.any_eq_true] at h ⊢
 obtain ⟨b, hb, hl⟩ := h
 exact ⟨b, hb, by rwa [getD_set_ne (i := i) (j := b) false (fun e => hi (e ▸ hb))] at hl⟩
theorem classT.keep {base : World} {S S2 : List Item} {tail tail2 : List Nat} {listed : Array Bool} {w : World} {i : Nat} (hi : i ∉ tail) (hi2 : i ∉ tail2) (h : classT base S tail S2 tail2 (listed.setIfInBounds i true) w) : classT base S tail S2 tail2 listed w :=
 ⟨h.emp, h.one.imp (any_keep hi) id, h.two.imp (any_keep hi2) id⟩
def YC (P : Program) (ops : Array Oper) (C : World → Prop) (o : Oper) (v : Value) (a : Act) : Prop :=
 (Region.wanted o (yielded ops a.tmps) = true ∧ ∀ w, C w → (execOp a.eval o).run P w = .ok (.value v) w) ∨
 (Region.wanted o (yielded ops a.tmps) = false ∧ v = undef)
theorem YC.wpOp {P : Program} {r : Option Nat} {ops : Array Oper} {C : World → Prop} {Q : Exit → Act → World → Prop} {i : Nat} {o : Oper} {v : Value} {a : Act} (hi : ops[i]? = some o) (hnd : ∀ c, o.op ≠ .defer c) (hy : YC P ops C o v a)
  {K : Act → World → Prop} {w : World} (hC : C w) (h : K (a.put o.dst v) w) : wpOpIn (Fr r) 0 P ops Q i K a w := by
 unfold Go.wpOpIn
 simp only [hi]
 rcases hy with ⟨hw, hv⟩ | ⟨hw, rfl⟩
 ·simp only [hw, if_true]
  refine wpIn_Fr hnd ?_
  rw [hv w hC]; exact h
 ·simp only [hw, Bool.false_eq_true, if_false]; exact ⟨fun _ _ => trivial, h⟩
theorem YC.of_same {P : Program} {ops : Array Oper} {C : World → Prop} {o : Oper} {v : Value} {a a' : Act} (hy : YC P ops C o v a) (he : execOp a'.eval o = execOp a.eval o)
  (hw : Region.wanted o (yielded ops a'.tmps) = Region.wanted o (yielded ops a.tmps)) : YC P ops C o v a' := by
 unfold YC at *
 rw [he, hw]
 exact hy
theorem wpOp_putC {P : Program} {r : Option Nat} {ops : Array Oper} {C : World → Prop} {Q : Exit → Act → World → Prop} {j : Nat} {oi oj : Oper} {v : Value} (hj : ops[j]? = some oj) (hap : oi.apart ops oj = true)
  (hsi : ∀ cs b, oi.op ≠ .select cs b) (hsj : ∀ cs b, oj.op ≠ .select cs b) (hdj : ∀ c, oj.op ≠ .defer c)
  (hQ : ∀ c a w, ¬ Q (.panic c) a w) {K : Act → World → Prop} {a : Act} {w : World}
  (hy : YC P ops C oi v a) (h : wpOpIn (Fr r) 0 P ops Q j (fun a' w' => C w' ∧ K a' w') (a.put oi.dst v) w) :
  wpOpIn (Fr r) 0 P ops Q j (fun a' w' => C w' ∧ YC P ops C oi v a' ∧ K (a'.put oi.dst v) w') a w := by
 obtain ⟨h1, h2, h3⟩ := Oper.apart_spec hap
 have keep : ∀ (a : Act), YC P ops C oi v a → ∀ u, YC P ops C oi v (a.put oj.dst u) := fun a hy u =>
  hy.of_same (execOp_put oi hsi a oj.dst u h3) (wanted_put oi a oj.dst u h3)
 have keepD : ∀ d, YC P ops C oi v { a with defers := d :: a.defers } := fun d => hy.of_same rfl rfl
 unfold wpOpIn at *
 simp only [hj] at *
 rw [wanted_put oj a oi.dst v h1] at h
 split
 ·rename_i hw
  simp only [hw, if_true] at h
  have h := h.2
  rw [Oper.semAt_eq _ _ _ hdj, execOp_put oj hsj a oi.dst v h1] at h
  refine wpIn_Fr hdj ?_
  generalize (execOp a.eval oj).run P w = r at *
  cases r with
  | ok n w' =>
   cases n <;> simp only [Oper.uponIn] at h ⊢
   case value u => exact ⟨h.1, keep a hy u, by rw [← Act.put_comm a v u h2]; exact h.2⟩
   case skip => exact ⟨h.1, keep a hy _, by rw [← Act.put_comm a v undef h2]; exact h.2⟩
   case defer d =>
    refine ⟨h.1, keep _ (keepD d) _, ?_⟩
    rw [← Act.put_comm _ v undef h2, ← Act.put_defers]
    exact h.2
   case enter f args =>
    refine ⟨h.1, CallsIn.mono h.2 fun e w'' he => ?_⟩
    cases e with
    | returned u => exact ⟨he.1, keep a hy u, by rw [← Act.put_comm a v u h2]; exact he.2⟩
    | panicked c => exact (hQ _ _ _ he).elim
    | outgrown => exact he
   case row row args => exact ⟨h.1, RowsIn.mono h.2 fun u w'' he => ⟨he.1, keep a hy u, by rw [← Act.put_comm a v u h2]; exact he.2⟩⟩
   case round l f tmps assign body =>
    refine ⟨h.1, RoundIn.mono h.2 fun e w'' he => ?_⟩
    cases e with
    | returned u => exact ⟨he.1, keep a hy u, by rw [← Act.put_comm a v u h2]; exact he.2⟩
    | panicked c => exact (hQ _ _ _ he).elim
    | outgrown => exact he
  | halt x w' =>
   cases x <;> simp only [Oper.uponIn] at h ⊢
   case panic u => exact (hQ _ _ _ h).elim
 ·rename_i hw
  simp only [hw] at h
  exact ⟨fun _ _ => trivial, h.2.1, keep a hy _, by rw [← Act.put_comm a v undef h2]; exact h.2.2⟩
theorem anyC_first {P : Program} {r : Option Nat} {ops : Array Oper} {base : World} {S S2 Z : List Item} {tail tail2 zt : List Nat} {Q : Exit → Act → World → Prop} {i : Nat} {oi : Oper} {v : Value} (hi : ops[i]? = some oi) (hit : i ∉ tail) (hit2 : i ∉ tail2) (ht : waitB ops zt i = true)
  (hz : ∀ listed w, classT base S tail S2 tail2 listed w → (zt.any fun b => listed.getD b false) = true ∨ Inv base Z w) (hiz : i ∉ zt)
  (hsel : ∀ (j : Nat) (o : Oper) cs b, ops[j]? = some o → o.op ≠ .select cs b) (hnd : noDeferB ops = true) (hQ : ∀ c a w, ¬ Q (.panic c) a w) :
  ∀ (fuel : Nat) (listed : Array Bool) (a : Act) (w : World), closed ops listed →
   (∀ j oj, ops[j]? = some oj → j ≠ i → listed.getD j true = false → (∀ e ∈ oj.after, Region.binds .any e = true → e.on ≠ i) → oi.apart ops oj = true) →
   i ∈ Region.ready .any ops listed → YC P ops (Inv base Z) oi v a → Inv base Z w → classT base S tail S2 tail2 listed w →
   anyC P r ops (classT base S tail S2 tail2) Q fuel (listed.setIfInBounds i true) (a.put oi.dst v) w → anyC P r ops (classT base S tail S2 tail2) Q (fuel + 1) listed a w := by
 have up : ∀ {listed : Array Bool} {w : World}, classT base S tail S2 tail2 listed w → classT base S tail S2 tail2 (listed.setIfInBounds i true) w := fun {listed w} h => by
  have grow : ∀ tl : List Nat, (tl.any fun b => listed.getD b false) = true → (tl.any fun b => (listed.setIfInBounds i true).getD b false) = true := fun tl h => by
   rw [List.any_eq_true] at h ⊢
   obtain ⟨b, hb, hl⟩ := h
   exact ⟨b, hb, getD_set_true hl⟩
  exact ⟨h.emp, h.one.imp (grow _) id, h.two.imp (grow _) id⟩
 intro fuel
 induction fuel with
 | zero =>
  intro listed a w hcl _ hr hy hC hC0 H
  refine ⟨fun h => (by rw [h] at hr; cases hr), fun j hj => ?_⟩
  by_cases hji : j = i
  ·subst hji; exact hy.wpOp hi (noDefer_spec hnd hi) hC ⟨up hC0, H⟩
  ·have := ready_mono hj hji
   rw [H.1] at this
   cases this
 | succ fuel ih =>
  intro listed a w hcl hfree hr hy hC hC0 H
  refine ⟨fun h => (by rw [h] at hr; cases hr), fun j hj => ?_⟩
  by_cases hji : j = i
  ·subst hji; exact hy.wpOp hi (noDefer_spec hnd hi) hC ⟨up hC0, H⟩
  ·have hiun := (mem_ready.1 hr).1
   have hno : ∀ {x : Array Bool}, x.getD i true = false → x.getD i false = true → False := fun {x} h1 h2 => by
    rcases Nat.lt_or_ge i x.size with h' | h'
    ·simp [h'] at h1 h2; rw [h1] at h2; cases h2
    ·simp [Array.getElem?_eq_none h'] at h2
   have hjt : j ∉ zt := fun hjt => hno hiun (waitB_spec ht hcl hjt hj)
   have h1 := H.2 j (ready_mono hj hji)
   obtain ⟨hjun, oj, hoj, hall⟩ := mem_ready.1 hj
   have hnot : ∀ e ∈ oj.after, Region.binds .any e = true → e.on ≠ i := fun e he hb heq => by
    have h1 := hall e he hb
    rw [heq] at h1
    exact hno hiun h1
   have hnone : (zt.any fun b => (listed.setIfInBounds j true).getD b false) = false := by
    rw [List.any_eq_false]
    intro b hb hl
    rw [getD_set_ne (i := j) (j := b) false (fun e => hjt (e ▸ hb))] at hl
    exact hno hiun (waitB_done ht hcl hb hl)
   have h1' : wpOpIn (Fr r) 0 P ops Q j (fun a' w' => Inv base Z w' ∧ (classT base S tail S2 tail2 (listed.setIfInBounds j true) w' ∧ anyC P r ops (classT base S tail S2 tail2) Q fuel ((listed.setIfInBounds i true).setIfInBounds j true) a' w')) (a.put oi.dst v) w := by
    refine wpOpIn_mono (fun a' w' h3 => ?_) h1
    have hc := h3.1
    rw [Array.setIfInBounds_comm _ _ (Ne.symm hji)] at hc
    have hc' := hc.keep hit hit2
    refine ⟨?_, hc', h3.2⟩
    rcases hz _ _ hc' with h | h
    ·rw [hnone] at h; cases h
    ·exact h
   have h2 := wpOp_putC hoj (hfree j oj hoj hji hjun hnot) (fun cs b => hsel i oi cs b hi) (fun cs b => hsel j oj cs b hoj) (noDefer_spec hnd hoj) hQ hy h1'
   have hfree' : ∀ k ok, ops[k]? = some ok → k ≠ i → (listed.setIfInBounds j true).getD k true = false →
     (∀ e ∈ ok.after, Region.binds .any e = true → e.on ≠ i) → oi.apart ops ok = true := fun k ok hk hki hun hno => by
    refine hfree k ok hk hki ?_ hno
    by_cases hjk : j = k
    ·subst hjk; exact hjun
    ·rw [getD_set_ne true hjk] at hun; exact hun
   refine wpOpIn_mono (fun a' w' h3 => ⟨h3.2.2.1, ih (listed.setIfInBounds j true) a' w' (closed_step hcl hj) hfree' (ready_mono hr (Ne.symm hji)) h3.2.1 h3.1 h3.2.2.1 ?_⟩) h2
   rw [Array.setIfInBounds_comm _ _ hji]
   exact h3.2.2.2
def RO (P : Program) (r : Option Nat) (base : World) (n : Nat) (ops : Array Oper) (S : List Item) (tail : List Nat) (S2 : List Item) (tail2 : List Nat) (fuel : Nat) (listed : Array Bool) (K : Env → List Item → Prop) (ρ : Env) (O : List Item) : Prop :=
 ∀ (Q : Post) a w M D, (∀ ρ O, K ρ O → Q .normal ρ O) → (∀ c ρ O, ¬ Q (.panic c) ρ O) → Ag n (mD D) a ρ → Inv base (O ++ (mI D ++ M)) w → closed ops listed → classT base S tail S2 tail2 listed w → anyC P r ops (classT base S tail S2 tail2) (lift base n M Q) fuel listed a w
section
variable {P : Program} {r : Option Nat} {base : World} {n : Nat} {Q : Post} {ρ : Env} {O S S2 : List Item} {tail tail2 : List Nat} {ops : Array Oper} {K : Env → List Item → Prop}
theorem Inv.emp {base : World} {O : List Item} {w : World} (h : Inv base O w) : Inv base [] w := h.sub (List.nil_sublist _)
theorem up_any {tl : List Nat} {listed : Array Bool} {i : Nat} (h : (tl.any fun b => listed.getD b false) = true) : (tl.any fun b => (listed.setIfInBounds i true).getD b false) = true := by
 rw [List.any_eq_true] at h ⊢
 obtain ⟨b, hb, hl⟩ := h
 exact ⟨b, hb, getD_set_true hl⟩
theorem RO.quietZ {fuel : Nat} {listed : Array Bool} (i : Nat) {d : Nat} {op : Op} {t : TypeId} {p : String} {af : Array Edge} {g : Option (Nat × Bool)} {v : Value} {Z : List Item} {zt : List Nat} (hi : ops[i]? = some ⟨some d, op, t, p, af, g⟩)
  (hz : ∀ listed w, classT base S tail S2 tail2 listed w → (zt.any fun b => listed.getD b false) = true ∨ Inv base Z w) (hiz : i ∉ zt) (ht : waitB ops zt i = true)
  (hs : Region.noSelect ops = true) (hnd : noDeferB ops = true) (hit : i ∉ tail) (hit2 : i ∉ tail2) (hf : Region.free .any ops listed i = true) (hr : (Region.ready .any ops listed).contains i = true)
  (h : ∀ ds a, Ag n ds a ρ → YC P ops (Inv base Z) ⟨some d, op, t, p, af, g⟩ v a) (hn : Nat.blt d n = true) (hk : RO P r base n ops S tail S2 tail2 fuel (listed.setIfInBounds i true) K (upd ρ d v) O) :
  RO P r base n ops S tail S2 tail2 (fuel + 1) listed K ρ O := by
 intro Q a w M D hq hp ha hI hcl hS
 have hr' : i ∈ Region.ready .any ops listed := by simpa using hr
 have hno : listed.getD i false = true → False := fun h2 => by
  have h1 := (mem_ready.1 hr').1
  rcases Nat.lt_or_ge i listed.size with h' | h'
  ·simp [h'] at h1 h2; rw [h1] at h2; cases h2
  ·simp [Array.getElem?_eq_none h'] at h2
 have hZ : Inv base Z w := (hz _ _ hS).resolve_left (by
  intro h
  rw [List.any_eq_true] at h
  obtain ⟨b, hb, hl⟩ := h
  exact hno (waitB_done ht hcl hb hl))
 exact anyC_first hi hit hit2 ht hz hiz (Region.noSelect_spec hs) hnd (fun c a w ⟨ρ, O, _, _, _, h⟩ => hp c ρ O h) fuel listed a w hcl (Region.free_spec hi hf) hr' (h _ a ha) hZ hS
  (hk Q _ w M D hq hp (ha.put hn v) hI (closed_step hcl hr') ⟨hS.emp, hS.one.imp up_any id, hS.two.imp up_any id⟩)
theorem RO.loud {fuel : Nat} {listed : Array Bool} (i : Nat) {o : Oper} (hi : ops[i]? = some o) (hg : o.guard = none) (hr : Region.ready .any ops listed = [i])
  (h : LT P r base n o ρ O (fun ρ' O' => (i ∈ tail ∨ Sub S O') ∧ (i ∈ tail2 ∨ Sub S2 O') ∧ RO P r base n ops S tail S2 tail2 fuel (listed.setIfInBounds i true) K ρ' O')) : RO P r base n ops S tail S2 tail2 (fuel + 1) listed K ρ O := by
 intro Q a w M D hq hp ha hI hcl hS
 refine ⟨fun h0 => (by rw [hr] at h0; cases h0), fun j hj => ?_⟩
 rw [hr] at hj
 obtain rfl : j = i := by simpa using hj
 have hj' : j ∈ Region.ready .any ops listed := by rw [hr]; simp
 have hlt : j < listed.size := by
  have := (mem_ready.1 hj').1
  rcases Nat.lt_or_ge j listed.size with h' | h'
  ·exact h'
  ·simp [Array.getElem?_eq_none h'] at this
 unfold wpOpIn
 simp only [hi]
 rw [if_pos (by simp [Region.wanted, hg])]
 refine h a w _ _ ha hI _ _ fun a' ρ' O' w' h1 h2 h3 => ?_
 have hcase : ∀ (tl : List Nat) (Z : List Item), (j ∈ tl ∨ Sub Z O') → (tl.any fun b => (listed.setIfInBounds j true).getD b false) = true ∨ Inv base Z w' := fun tl Z h3 => by
  rcases h3 with h4 | h4
  ·refine .inl (List.any_eq_true.2 ⟨j, h4, ?_⟩)
   simp [hlt]
  ·exact .inr (h2.left.subp h4)
 have hcl' : classT base S tail S2 tail2 (listed.setIfInBounds j true) w' := ⟨h2.emp, hcase _ _ h3.1, hcase _ _ h3.2.1⟩
 exact ⟨hcl', h3.2.2 Q a' w' M D hq hp h1 h2 (closed_step hcl hj') hcl'⟩
theorem RO.done {fuel : Nat} {listed : Array Bool} (hr : Region.ready .any ops listed = []) (h : K ρ O) : RO P r base n ops S tail S2 tail2 fuel listed K ρ O := by
 intro Q a w M D hq hp ha hI _ _
 cases fuel with
 | zero => exact ⟨hr, ρ, O, D, ha, hI, hq _ _ h⟩
 | succ f => exact ⟨fun _ => ⟨ρ, O, D, ha, hI, hq _ _ h⟩, by rw [hr]; simp⟩
def tailOf (l : List (Nat × Nat)) : List Nat := (l.filter (·.2 == 2)).map (·.1)
def tailOf2 (l : List (Nat × Nat)) : List Nat := (l.filter fun q => q.2 == 2 || q.2 == 4).map (·.1)
def walkB (ops : Array Oper) (tail tail2 : List Nat) : List (Nat × Nat) → Array Bool → Bool
 | [], listed => (Region.ready .any ops listed).isEmpty
 | (i, 0) :: l, listed => waitB ops tail i && Region.free .any ops listed i && (Region.ready .any ops listed).contains i && walkB ops tail tail2 l (listed.setIfInBounds i true)
 | (i, 3) :: l, listed => waitB ops tail2 i && Region.free .any ops listed i && (Region.ready .any ops listed).contains i && walkB ops tail tail2 l (listed.setIfInBounds i true)
 | (i, _) :: l, listed => (Region.ready .any ops listed == [i]) && walkB ops tail tail2 l (listed.setIfInBounds i true)
def drawB (ops : Array Oper) (l : List (Nat × Nat)) : Bool := Region.noSelect ops && noDeferB ops && l.length == ops.size && (l.all fun q => (q.2 == 2 || !(tailOf l).contains q.1) && (q.2 == 2 || q.2 == 4 || !(tailOf2 l).contains q.1)) && walkB ops (tailOf l) (tailOf2 l) l (Array.replicate ops.size false)
def DO (P : Program) (r : Option Nat) (base : World) (n : Nat) (ops : Array Oper) (S : List Item) (tail : List Nat) (S2 : List Item) (tail2 : List Nat) (l : List (Nat × Nat)) (K : Env → List Item → Prop) (ρ : Env) (O : List Item) : Prop :=
 Region.noSelect ops = true → noDeferB ops = true → (∀ q ∈ l, ((q.2 = 2 → q.1 ∈ tail) ∧ (q.2 ≠ 2 → q.1 ∉ tail)) ∧ ((q.2 = 2 ∨ q.2 = 4 → q.1 ∈ tail2) ∧ (q.2 ≠ 2 → q.2 ≠ 4 → q.1 ∉ tail2))) → ∀ listed, walkB ops tail tail2 l listed = true → RO P r base n ops S tail S2 tail2 l.length listed K ρ O
theorem DO.q {l : List (Nat × Nat)} {i : Nat} {d : Nat} {op : Op} {t : TypeId} {p : String} {af : Array Edge} {v : Value} (hi : ops[i]? = some ⟨some d, op, t, p, af, none⟩)
  (h : QT P base ⟨some d, op, t, p, af, none⟩ ρ S v) (hk : DO P r base n ops S tail S2 tail2 l K (upd ρ d v) O) (hn : Nat.blt d n = true := by rfl) :
  DO P r base n ops S tail S2 tail2 ((i, 0) :: l) K ρ O := fun hs hnd hl listed hw => by
 simp only [walkB, Bool.and_eq_true] at hw
 have h0 := hl (i, 0) (by simp)
 exact RO.quietZ (zt := tail) i hi (fun _ _ h => h.one) (h0.1.2 (by simp)) hw.1.1.1 hs hnd (h0.1.2 (by simp)) (h0.2.2 (by simp) (by simp)) hw.1.1.2 hw.1.2 (fun ds a ha => .inl ⟨rfl, fun w hw => by rw [ha.eval]; exact h w hw⟩) hn (hk hs hnd (fun q hq => hl q (List.mem_cons_of_mem _ hq)) _ hw.2)
theorem DO.quiet2 {l : List (Nat × Nat)} {i : Nat} {d : Nat} {op : Op} {t : TypeId} {p : String} {af : Array Edge} {v : Value} (hi : ops[i]? = some ⟨some d, op, t, p, af, none⟩)
  (h : QT P base ⟨some d, op, t, p, af, none⟩ ρ S2 v) (hk : DO P r base n ops S tail S2 tail2 l K (upd ρ d v) O) (hn : Nat.blt d n = true := by rfl) :
  DO P r base n ops S tail S2 tail2 ((i, 3) :: l) K ρ O := fun hs hnd hl listed hw => by
 simp only [walkB, Bool.and_eq_true] at hw
 have h0 := hl (i, 3) (by simp)
 exact RO.quietZ (zt := tail2) i hi (fun _ _ h => h.two) (h0.2.2 (by simp) (by simp)) hw.1.1.1 hs hnd (h0.1.2 (by simp)) (h0.2.2 (by simp) (by simp)) hw.1.1.2 hw.1.2 (fun ds a ha => .inl ⟨rfl, fun w hw => by rw [ha.eval]; exact h w hw⟩) hn (hk hs hnd (fun q hq => hl q (List.mem_cons_of_mem _ hq)) _ hw.2)
theorem DO.guarded {l : List (Nat × Nat)} {i : Nat} {d : Nat} {op : Op} {t : TypeId} {p : String} {af : Array Edge} {v : Value} {j tj : Nat} {want : Bool} (hi : ops[i]? = some ⟨some d, op, t, p, af, some (j, want)⟩)
  (hj : (ops[j]?).bind (·.dst) = some tj) (hw : ρ tj = .bool want)
  (h : QT P base ⟨some d, op, t, p, af, some (j, want)⟩ ρ S v) (hk : DO P r base n ops S tail S2 tail2 l K (upd ρ d v) O) (hn : Nat.blt d n = true := by rfl) :
  DO P r base n ops S tail S2 tail2 ((i, 0) :: l) K ρ O := fun hs hnd hl listed hb => by
 simp only [walkB, Bool.and_eq_true] at hb
 have h0 := hl (i, 0) (by simp)
 refine RO.quietZ (zt := tail) i hi (fun _ _ h => h.one) (h0.1.2 (by simp)) hb.1.1.1 hs hnd (h0.1.2 (by simp)) (h0.2.2 (by simp) (by simp)) hb.1.1.2 hb.1.2 (fun ds a ha => ?_) hn (hk hs hnd (fun q hq => hl q (List.mem_cons_of_mem _ hq)) _ hb.2)
 have hy := yielded_eq (ops := ops) ha hj
 rw [hw] at hy
 exact .inl ⟨by unfold Region.wanted; simp [hy, yOf], fun w hw => by rw [ha.eval]; exact h w hw⟩
theorem DO.passed {l : List (Nat × Nat)} {i : Nat} {d : Nat} {op : Op} {t : TypeId} {p : String} {af : Array Edge} {j tj : Nat} {want : Bool} (hi : ops[i]? = some ⟨some d, op, t, p, af, some (j, want)⟩)
  (hj : (ops[j]?).bind (·.dst) = some tj) (hw : (yOf (ρ tj) == some want) = false)
  (hk : DO P r base n ops S tail S2 tail2 l K (upd ρ d undef) O) (hn : Nat.blt d n = true := by rfl) :
  DO P r base n ops S tail S2 tail2 ((i, 0) :: l) K ρ O := fun hs hnd hl listed hb => by
 simp only [walkB, Bool.and_eq_true] at hb
 have h0 := hl (i, 0) (by simp)
 refine RO.quietZ (zt := tail) i hi (fun _ _ h => h.one) (h0.1.2 (by simp)) hb.1.1.1 hs hnd (h0.1.2 (by simp)) (h0.2.2 (by simp) (by simp)) hb.1.1.2 hb.1.2 (fun ds a ha => ?_) hn (hk hs hnd (fun q hq => hl q (List.mem_cons_of_mem _ hq)) _ hb.2)
 have hy := yielded_eq (ops := ops) ha hj
 exact .inr ⟨by unfold Region.wanted; simp only [hy]; exact hw, rfl⟩
theorem DO.loud2 {l : List (Nat × Nat)} {i : Nat} {o : Oper} (hi : ops[i]? = some o) (hg : o.guard = none)
  (h : LT P r base n o ρ O (fun ρ' O' => Sub S O' ∧ Sub S2 O' ∧ DO P r base n ops S tail S2 tail2 l K ρ' O')) : DO P r base n ops S tail S2 tail2 ((i, 1) :: l) K ρ O := fun hs hnd hl listed hb => by
 simp only [walkB, Bool.and_eq_true, beq_iff_eq] at hb
 refine RO.loud i hi hg hb.1 ?_
 intro a w M ds ha hI next Qx hnext
 exact h a w M ds ha hI next Qx fun a' ρ' O' w' h1 h2 h3 => hnext a' ρ' O' w' h1 h2 ⟨.inr h3.1, .inr h3.2.1, h3.2.2 hs hnd (fun q hq => hl q (List.mem_cons_of_mem _ hq)) _ hb.2⟩
theorem DO.loud {l : List (Nat × Nat)} {i : Nat} {o : Oper} (hi : ops[i]? = some o) (hg : o.guard = none)
  (h : LT P r base n o ρ O (fun ρ' O' => Sub S O' ∧ DO P r base n ops S tail [] tail2 l K ρ' O')) : DO P r base n ops S tail [] tail2 ((i, 1) :: l) K ρ O :=
 DO.loud2 hi hg fun a w M ds ha hI next Qx hnext => h a w M ds ha hI next Qx fun a' ρ' O' w' h1 h2 h3 => hnext a' ρ' O' w' h1 h2 ⟨h3.1, Sub.of (List.nil_sublist _), h3.2⟩
theorem DO.last2 {l : List (Nat × Nat)} {i : Nat} {o : Oper} (hi : ops[i]? = some o) (hg : o.guard = none)
  (h : LT P r base n o ρ O (fun ρ' O' => Sub S O' ∧ DO P r base n ops S tail S2 tail2 l K ρ' O')) : DO P r base n ops S tail S2 tail2 ((i, 4) :: l) K ρ O := fun hs hnd hl listed hb => by
 simp only [walkB, Bool.and_eq_true, beq_iff_eq] at hb
 refine RO.loud i hi hg hb.1 ?_
 intro a w M ds ha hI next Qx hnext
 exact h a w M ds ha hI next Qx fun a' ρ' O' w' h1 h2 h3 => hnext a' ρ' O' w' h1 h2 ⟨.inr h3.1, .inl ((hl (i, 4) (by simp)).2.1 (.inr rfl)), h3.2 hs hnd (fun q hq => hl q (List.mem_cons_of_mem _ hq)) _ hb.2⟩
theorem DO.last {l : List (Nat × Nat)} {i : Nat} {o : Oper} (hi : ops[i]? = some o) (hg : o.guard = none)
  (h : LT P r base n o ρ O (fun ρ' O' => DO P r base n ops S tail S2 tail2 l K ρ' O')) : DO P r base n ops S tail S2 tail2 ((i, 2) :: l) K ρ O := fun hs hnd hl listed hb => by
 simp only [walkB, Bool.and_eq_true, beq_iff_eq] at hb
 refine RO.loud i hi hg hb.1 ?_
 intro a w M ds ha hI next Qx hnext
 exact h a w M ds ha hI next Qx fun a' ρ' O' w' h1 h2 h3 => hnext a' ρ' O' w' h1 h2 ⟨.inl ((hl (i, 2) (by simp)).1.1 rfl), .inl ((hl (i, 2) (by simp)).2.1 (.inl rfl)), h3 hs hnd (fun q hq => hl q (List.mem_cons_of_mem _ hq)) _ hb.2⟩
theorem DO.done (h : K ρ O) : DO P r base n ops S tail S2 tail2 [] K ρ O := fun _ _ _ listed hb => RO.done (by simpa [walkB] using hb) h
theorem T.draws2 (S S2 : List Item) (l : List (Nat × Nat)) {id : Nat} {ops : Array Oper} (hm : P.follows .mixedOrders = true) (hB : drawB ops l = true) (hS : Sub S O) (hS2 : Sub S2 O) (hp : ∀ c ρ O, ¬ Q (.panic c) ρ O)
  (h : DO P r base n ops S (tailOf l) S2 (tailOf2 l) l (fun ρ O => Q .normal ρ O) ρ O) : T P r base n (.region id ops true) Q ρ O := by
 simp only [drawB, Bool.and_eq_true, beq_iff_eq] at hB
 obtain ⟨⟨⟨⟨h1, hnd⟩, h2⟩, h4⟩, h5⟩ := hB
 have hl : ∀ q ∈ l, ((q.2 = 2 → q.1 ∈ tailOf l) ∧ (q.2 ≠ 2 → q.1 ∉ tailOf l)) ∧ ((q.2 = 2 ∨ q.2 = 4 → q.1 ∈ tailOf2 l) ∧ (q.2 ≠ 2 → q.2 ≠ 4 → q.1 ∉ tailOf2 l)) := fun q hq => by
  have := List.all_eq_true.1 h4 q hq
  simp only [Bool.and_eq_true, Bool.or_eq_true, beq_iff_eq, Bool.not_eq_true', List.contains_eq_mem, decide_eq_false_iff_not] at this
  refine ⟨⟨fun e => List.mem_map.2 ⟨q, List.mem_filter.2 ⟨hq, by simp [e]⟩, rfl⟩, fun e => this.1.resolve_left e⟩, fun e => List.mem_map.2 ⟨q, List.mem_filter.2 ⟨hq, by rcases e with e | e <;> simp [e]⟩, rfl⟩, fun e e2 => this.2.resolve_left (fun h => h.elim e e2)⟩
 have := h h1 hnd hl _ h5
 rw [h2] at this
 intro a w M D _ ha hi
 refine wpIn_region_any hm (wpAny_of_anyC _ _ _ _ (this Q a _ M D (fun _ _ h => h) hp ha (hi.drawn _) (closed_start _ _) ⟨(hi.drawn _).emp, .inr ((hi.drawn _).left.subp hS), .inr ((hi.drawn _).left.subp hS2)⟩))
theorem T.draws (S : List Item) (l : List (Nat × Nat)) {id : Nat} {ops : Array Oper} (hm : P.follows .mixedOrders = true) (hB : drawB ops l = true) (hS : Sub S O) (hp : ∀ c ρ O, ¬ Q (.panic c) ρ O)
  (h : DO P r base n ops S (tailOf l) [] (tailOf2 l) l (fun ρ O => Q .normal ρ O) ρ O) : T P r base n (.region id ops true) Q ρ O :=
 T.draws2 S [] l hm hB hS (Sub.of (List.nil_sublist _)) hp h
def AllI (p : Nat → Prop) : List Nat → Prop
 | [] => True
 | i :: is => p i ∧ AllI p is
theorem AllI.mem {p : Nat → Prop} : ∀ {is : List Nat}, AllI p is → ∀ i ∈ is, p i
 | i :: is, h, j, hj => by
  rcases List.mem_cons.1 hj with rfl | hj
  ·exact h.1
  ·exact AllI.mem h.2 j hj
theorem RO.fork {fuel : Nat} {listed : Array Bool} (is : List Nat) (hr : Region.ready .any ops listed = is) (h0 : is.isEmpty = false)
  (h : AllI (fun i => ∃ o, ops[i]? = some o ∧ o.guard = none ∧ LT P r base n o ρ O (fun ρ' O' => Sub S O' ∧ RO P r base n ops S [] [] [] fuel (listed.setIfInBounds i true) K ρ' O')) is) : RO P r base n ops S [] [] [] (fuel + 1) listed K ρ O := by
 intro Q a w M D hq hp ha hI hcl hS
 refine ⟨fun h1 => ?_, fun j hj => ?_⟩
 ·rw [hr] at h1; subst h1; cases h0
 obtain ⟨o, hi, hg, hl⟩ := h.mem j (hr ▸ hj)
 unfold wpOpIn
 simp only [hi]
 rw [if_pos (by simp [Region.wanted, hg])]
 refine hl a w _ _ ha hI _ _ fun a' ρ' O' w' h1 h2 h3 => ?_
 have hcl' : classT base S [] [] [] (listed.setIfInBounds j true) w' := ⟨h2.emp, .inr (h2.left.subp h3.1), .inr h2.emp⟩
 exact ⟨hcl', h3.2 Q a' w' M D hq hp h1 h2 (closed_step hcl hj) hcl'⟩
theorem RO.quietT {fuel : Nat} {listed : Array Bool} (i : Nat) {d : Nat} {op : Op} {t : TypeId} {p : String} {af : Array Edge} {v : Value} (hi : ops[i]? = some ⟨some d, op, t, p, af, none⟩)
  (hb : (Region.noSelect ops && noDeferB ops && Region.free .any ops listed i && (Region.ready .any ops listed).contains i) = true)
  (h : QT P base ⟨some d, op, t, p, af, none⟩ ρ S v) (hk : RO P r base n ops S [] [] [] fuel (listed.setIfInBounds i true) K (upd ρ d v) O) (hn : Nat.blt d n = true := by rfl) :
  RO P r base n ops S [] [] [] (fuel + 1) listed K ρ O := by
 simp only [Bool.and_eq_true] at hb
 exact RO.quietZ (zt := []) i hi (fun _ _ h => h.one) (by simp) rfl hb.1.1.1 hb.1.1.2 (by simp) (by simp) hb.1.2 hb.2 (fun ds a ha => .inl ⟨rfl, fun w hw => by rw [ha.eval]; exact h w hw⟩) hn hk
theorem RO.forkT {fuel : Nat} {listed : Array Bool} (is : List Nat) (hr : Region.ready .any ops listed = is) (h0 : is.isEmpty = false)
  (h : AllI (fun i => ∃ o, ops[i]? = some o ∧ o.guard = none ∧ LT P r base n o ρ O (fun ρ' O' => (i ∈ tail ∨ Sub S O') ∧ RO P r base n ops S tail [] [] fuel (listed.setIfInBounds i true) K ρ' O')) is) (hlen : is.all (fun i => Nat.blt i listed.size) = true) : RO P r base n ops S tail [] [] (fuel + 1) listed K ρ O := by
 intro Q a w M D hq hp ha hI hcl hS
 refine ⟨fun h1 => ?_, fun j hj => ?_⟩
 ·rw [hr] at h1; subst h1; cases h0
 obtain ⟨o, hi, hg, hl⟩ := h.mem j (hr ▸ hj)
 have hlt : j < listed.size := by
  have := List.all_eq_true.1 hlen j (hr ▸ hj)
  rwa [Nat.blt_eq] at this
 unfold wpOpIn
 simp only [hi]
 rw [if_pos (by simp [Region.wanted, hg])]
 refine hl a w _ _ ha hI _ _ fun a' ρ' O' w' h1 h2 h3 => ?_
 have hcase : (tail.any fun b => (listed.setIfInBounds j true).getD b false) = true ∨ Inv base S w' := by
  rcases h3.1 with h4 | h4
  ·refine .inl (List.any_eq_true.2 ⟨j, h4, ?_⟩)
   simp [hlt]
  ·exact .inr (h2.left.subp h4)
 have hcl' : classT base S tail [] [] (listed.setIfInBounds j true) w' := ⟨h2.emp, hcase, .inr h2.emp⟩
 exact ⟨hcl', h3.2 Q a' w' M D hq hp h1 h2 (closed_step hcl hj) hcl'⟩
theorem RO.quietTT {fuel : Nat} {listed : Array Bool} (i : Nat) {d : Nat} {op : Op} {t : TypeId} {p : String} {af : Array Edge} {v : Value} (hi : ops[i]? = some ⟨some d, op, t, p, af, none⟩)
  (hb : (Region.noSelect ops && noDeferB ops && Region.free .any ops listed i && (Region.ready .any ops listed).contains i && waitB ops tail i && !tail.contains i) = true)
  (h : QT P base ⟨some d, op, t, p, af, none⟩ ρ S v) (hk : RO P r base n ops S tail [] [] fuel (listed.setIfInBounds i true) K (upd ρ d v) O) (hn : Nat.blt d n = true := by rfl) :
  RO P r base n ops S tail [] [] (fuel + 1) listed K ρ O := by
 simp only [Bool.and_eq_true, Bool.not_eq_true', List.contains_eq_mem, decide_eq_false_iff_not] at hb
 exact RO.quietZ (zt := tail) i hi (fun _ _ h => h.one) hb.2 hb.1.2 hb.1.1.1.1.1 hb.1.1.1.1.2 hb.2 (by simp) hb.1.1.1.2 (by simpa using hb.1.1.2) (fun ds a ha => .inl ⟨rfl, fun w hw => by rw [ha.eval]; exact h w hw⟩) hn hk
theorem RO.quietE {fuel : Nat} {listed : Array Bool} (i : Nat) {d : Nat} {op : Op} {t : TypeId} {p : String} {af : Array Edge} {v : Value} (hi : ops[i]? = some ⟨some d, op, t, p, af, none⟩)
  (hb : (Region.noSelect ops && noDeferB ops && Region.free .any ops listed i && (Region.ready .any ops listed).contains i && !tail.contains i) = true)
  (h : QT P base ⟨some d, op, t, p, af, none⟩ ρ [] v) (hk : RO P r base n ops S tail [] [] fuel (listed.setIfInBounds i true) K (upd ρ d v) O) (hn : Nat.blt d n = true := by rfl) :
  RO P r base n ops S tail [] [] (fuel + 1) listed K ρ O := by
 simp only [Bool.and_eq_true, Bool.not_eq_true', List.contains_eq_mem, decide_eq_false_iff_not] at hb
 exact RO.quietZ (zt := []) (Z := []) i hi (fun _ _ h => .inr h.emp) (by simp) rfl hb.1.1.1.1 hb.1.1.1.2 hb.2 (by simp) hb.1.1.2 (by simpa using hb.1.2) (fun ds a ha => .inl ⟨rfl, fun w hw => by rw [ha.eval]; exact h w hw⟩) hn hk
theorem T.treeT (S : List Item) (tail : List Nat) (m : Nat) {id : Nat} {ops : Array Oper} (hm : P.follows .mixedOrders = true) (hsz : ops.size = m) (hS : Sub S O) (hp : ∀ c ρ O, ¬ Q (.panic c) ρ O)
  (h : RO P r base n ops S tail [] [] m (Array.replicate m false) (fun ρ O => Q .normal ρ O) ρ O) : T P r base n (.region id ops true) Q ρ O := by
 subst hsz
 intro a w M D _ ha hi
 refine wpIn_region_any hm (wpAny_of_anyC _ _ _ _ (h Q a _ M D (fun _ _ h => h) hp ha (hi.drawn _) (closed_start _ _) ⟨(hi.drawn _).emp, .inr ((hi.drawn _).left.subp hS), .inr (hi.drawn _).emp⟩))
theorem T.tree (S : List Item) (m : Nat) {id : Nat} {ops : Array Oper} (hm : P.follows .mixedOrders = true) (hsz : ops.size = m) (hS : Sub S O) (hp : ∀ c ρ O, ¬ Q (.panic c) ρ O)
  (h : RO P r base n ops S [] [] [] m (Array.replicate m false) (fun ρ O => Q .normal ρ O) ρ O) : T P r base n (.region id ops true) Q ρ O := by
 subst hsz
 intro a w M D _ ha hi
 refine wpIn_region_any hm (wpAny_of_anyC _ _ _ _ (h Q a _ M D (fun _ _ h => h) hp ha (hi.drawn _) (closed_start _ _) ⟨(hi.drawn _).emp, .inr ((hi.drawn _).left.subp hS), .inr (hi.drawn _).emp⟩))
theorem RO.sub {O' : List Item} {fuel : Nat} {listed : Array Bool} (hs : Sub O' O) (h : RO P r base n ops S tail S2 tail2 fuel listed K ρ O') : RO P r base n ops S tail S2 tail2 fuel listed K ρ O :=
 fun Q a w M D hq hp ha hI hcl hS => h Q a w M D hq hp ha (hI.subp (by obtain ⟨l, h1, h2⟩ := hs; exact ⟨l ++ (mI D ++ M), h1.append_right _, h2.append (List.Sublist.refl _)⟩)) hcl hS
theorem RO.fin {O' : List Item} {fuel : Nat} {listed : Array Bool} (hr : Region.ready .any ops listed = []) (h : K ρ O') (hs : Sub O' O) : RO P r base n ops S tail S2 tail2 fuel listed K ρ O := RO.sub hs (RO.done hr h)
end
end Go.Lx


namespace Go.Lx
open Go.RowKit
def Inf (P : Program) (t : TypeId) (z : Value) (s b : Nat) : Prop := (P.info? t).map (fun i => (i.zero, i.size, i.bytes)) = some (some z, s, b)
theorem Inf.get {P : Program} {t : TypeId} {z : Value} {s b : Nat} (h : Inf P t z s b) : ∃ i, P.info? t = some i ∧ i.zero = some z ∧ i.size = s ∧ i.bytes = b := by
 unfold Inf at h
 cases hi : P.info? t with
 | none => rw [hi] at h; cases h
 | some i =>
  rw [hi] at h
  simp only [Option.map_some, Option.some.injEq, Prod.mk.injEq] at h
  exact ⟨i, rfl, h.1, h.2.1, h.2.2⟩
theorem run_typeInfo' {P : Program} {t : TypeId} {i : TypeInfo} (h : P.info? t = some i) (w : World) : (typeInfo t).run P w = .ok i w := by
 unfold typeInfo; simp [h]
theorem run_sizeOf' {P : Program} {t : TypeId} {z : Value} {s b : Nat} (h : Inf P t z s b) (w : World) : (sizeOf t).run P w = .ok s w := by
 obtain ⟨i, hi, _, hs, _⟩ := h.get
 unfold sizeOf; simp [run_typeInfo' hi, hs]
theorem run_zeroValue' {P : Program} {t : TypeId} {z : Value} {s b : Nat} (h : Inf P t z s b) (w : World) : (zeroValue t).run P w = .ok z w := by
 obtain ⟨i, hi, hz, _, _⟩ := h.get
 unfold zeroValue; simp [run_typeInfo' hi, hz]
theorem run_underlying' {P : Program} {t : TypeId} {d : TypeDesc} (h : P.underlying t = some d) (w : World) : (underlying t).run P w = .ok d w := by
 unfold underlying; simp [h]
theorem run_equal_bool {P : Program} {T : TypeId} (h : P.underlying T = some .bool) (a b : Bool) (w : World) : (Op.equal T (.bool a) (.bool b)).run P w = .ok (a == b) w := by
 show (Op.equalIn (9999 + 1) T (.bool a) (.bool b)).run P w = _
 rw [Op.equalIn]
 simp [run_underlying' h]
def aggB : TypeDesc → Bool
 | .struct _ | .array _ _ => true
 | _ => false
theorem run_isAgg' {P : Program} {t : TypeId} {d : TypeDesc} (h : P.underlying t = some d) (w : World) : (isAgg t).run P w = .ok (aggB d) w := by
 unfold isAgg; simp [run_underlying' h]; cases d <;> rfl
section
variable {P : Program} {base : World} {ρ : Env} {O : List Item} {dst : Option Nat} {t : TypeId} {p : String} {af : Array Edge} {g : Option (Nat × Bool)}
theorem q_move {x : Operand} {v : Value} (h : ev ρ x = v) : QT P base ⟨dst, .move x, t, p, af, g⟩ ρ O v := fun w _ => by simp [execOp, h]
theorem q_assign {x : Operand} {v : Value} (h : ev ρ x = v) : QT P base ⟨dst, .assign x, t, p, af, g⟩ ρ O v := fun w _ => by simp [execOp, h]
theorem q_lss {x y : Operand} {T U : TypeId} {k : IntKind} {a b : Int} (hx : ev ρ x = .int k a) (hy : ev ρ y = .int k b) : QT P base ⟨dst, .binOp .lss T x y U, t, p, af, g⟩ ρ O (.bool (decide (a < b))) := fun w _ => by
 simp [execOp, hx, hy, eqGuard, binOp, Op.intCmp]
theorem q_leq {x y : Operand} {T U : TypeId} {k : IntKind} {a b : Int} (hx : ev ρ x = .int k a) (hy : ev ρ y = .int k b) : QT P base ⟨dst, .binOp .leq T x y U, t, p, af, g⟩ ρ O (.bool (decide (a ≤ b))) := fun w _ => by
 simp [execOp, hx, hy, eqGuard, binOp, Op.intCmp]
theorem q_gtr {x y : Operand} {T U : TypeId} {k : IntKind} {a b : Int} (hx : ev ρ x = .int k a) (hy : ev ρ y = .int k b) : QT P base ⟨dst, .binOp .gtr T x y U, t, p, af, g⟩ ρ O (.bool (decide (b < a))) := fun w _ => by
 simp [execOp, hx, hy, eqGuard, binOp, Op.intCmp]
theorem q_geq {x y : Operand} {T U : TypeId} {k : IntKind} {a b : Int} (hx : ev ρ x = .int k a) (hy : ev ρ y = .int k b) : QT P base ⟨dst, .binOp .geq T x y U, t, p, af, g⟩ ρ O (.bool (decide (b ≤ a))) := fun w _ => by
 simp [execOp, hx, hy, eqGuard, binOp, Op.intCmp]
theorem q_eql {x y : Operand} {T U : TypeId} {k : IntKind} {a b : Int} (hx : ev ρ x = .int k a) (hy : ev ρ y = .int k b) : QT P base ⟨dst, .binOp .eql T x y U, t, p, af, g⟩ ρ O (.bool (decide (a = b))) := fun w _ => by
 simp [execOp, hx, hy, eqGuard, binOp, Op.intCmp]; rfl
theorem q_neq {x y : Operand} {T U : TypeId} {k : IntKind} {a b : Int} (hx : ev ρ x = .int k a) (hy : ev ρ y = .int k b) : QT P base ⟨dst, .binOp .neq T x y U, t, p, af, g⟩ ρ O (.bool (decide (a ≠ b))) := fun w _ => by
 simp [execOp, hx, hy, eqGuard, binOp, Op.intCmp, bne]; rfl
theorem q_add {x y : Operand} {T U : TypeId} {k : IntKind} {a b : Int} (hx : ev ρ x = .int k a) (hy : ev ρ y = .int k b) : QT P base ⟨dst, .binOp .add T x y U, t, p, af, g⟩ ρ O (.int k (k.wrap (a + b))) := fun w _ => by
 simp [execOp, hx, hy, eqGuard, binOp, Op.intArith]
theorem q_sub {x y : Operand} {T U : TypeId} {k : IntKind} {a b : Int} (hx : ev ρ x = .int k a) (hy : ev ρ y = .int k b) : QT P base ⟨dst, .binOp .sub T x y U, t, p, af, g⟩ ρ O (.int k (k.wrap (a - b))) := fun w _ => by
 simp [execOp, hx, hy, eqGuard, binOp, Op.intArith]
theorem q_mul {x y : Operand} {T U : TypeId} {k : IntKind} {a b : Int} (hx : ev ρ x = .int k a) (hy : ev ρ y = .int k b) : QT P base ⟨dst, .binOp .mul T x y U, t, p, af, g⟩ ρ O (.int k (k.wrap (a * b))) := fun w _ => by
 simp [execOp, hx, hy, eqGuard, binOp, Op.intArith]
theorem wrap64_id {n : Int} (h : -9223372036854775808 ≤ n ∧ n ≤ 9223372036854775807) : IntKind.i64.wrap n = n := IntWalk.i64_in n h
theorem q_add64 {x y : Operand} {T U : TypeId} {a b : Int} (hx : ev ρ x = .int .i64 a) (hy : ev ρ y = .int .i64 b) (h : -9223372036854775808 ≤ a + b ∧ a + b ≤ 9223372036854775807) :
  QT P base ⟨dst, .binOp .add T x y U, t, p, af, g⟩ ρ O (.int .i64 (a + b)) := by have := q_add (P := P) (base := base) (O := O) (dst := dst) (t := t) (p := p) (af := af) (g := g) (T := T) (U := U) hx hy; rwa [wrap64_id h] at this
theorem q_sub64 {x y : Operand} {T U : TypeId} {a b : Int} (hx : ev ρ x = .int .i64 a) (hy : ev ρ y = .int .i64 b) (h : -9223372036854775808 ≤ a - b ∧ a - b ≤ 9223372036854775807) :
  QT P base ⟨dst, .binOp .sub T x y U, t, p, af, g⟩ ρ O (.int .i64 (a - b)) := by have := q_sub (P := P) (base := base) (O := O) (dst := dst) (t := t) (p := p) (af := af) (g := g) (T := T) (U := U) hx hy; rwa [wrap64_id h] at this
theorem q_mul64 {x y : Operand} {T U : TypeId} {a b : Int} (hx : ev ρ x = .int .i64 a) (hy : ev ρ y = .int .i64 b) (h : -9223372036854775808 ≤ a * b ∧ a * b ≤ 9223372036854775807) :
  QT P base ⟨dst, .binOp .mul T x y U, t, p, af, g⟩ ρ O (.int .i64 (a * b)) := by have := q_mul (P := P) (base := base) (O := O) (dst := dst) (t := t) (p := p) (af := af) (g := g) (T := T) (U := U) hx hy; rwa [wrap64_id h] at this
theorem q_inc {x y : Operand} {T U : TypeId} {a : Nat} (hx : ev ρ x = .int .i64 (a : Int)) (hy : ev ρ y = .int .i64 1) (h : a < 9223372036854775807) :
  QT P base ⟨dst, .binOp .add T x y U, t, p, af, g⟩ ρ O (.int .i64 ((a + 1 : Nat) : Int)) := by
 have := q_add64 (P := P) (base := base) (O := O) (dst := dst) (t := t) (p := p) (af := af) (g := g) (T := T) (U := U) hx hy (by omega); rwa [← Int.natCast_succ] at this
theorem q_not {x : Operand} {T : TypeId} {b : Bool} (hx : ev ρ x = .bool b) : QT P base ⟨dst, .unOp .not T x, t, p, af, g⟩ ρ O (.bool !b) := fun w _ => by
 simp [execOp, hx, Op.unary]
theorem q_beql {x y : Operand} {T U : TypeId} {a b : Bool} (hu : P.underlying T = some .bool) (hx : ev ρ x = .bool a) (hy : ev ρ y = .bool b) : QT P base ⟨dst, .binOp .eql T x y U, t, p, af, g⟩ ρ O (.bool (a == b)) := fun w _ => by
 simp [execOp, hx, hy, eqGuard, binOp, run_equal_bool hu]
theorem q_bneq {x y : Operand} {T U : TypeId} {a b : Bool} (hu : P.underlying T = some .bool) (hx : ev ρ x = .bool a) (hy : ev ρ y = .bool b) : QT P base ⟨dst, .binOp .neq T x y U, t, p, af, g⟩ ρ O (.bool (a != b)) := fun w _ => by
 simp [execOp, hx, hy, eqGuard, binOp, run_equal_bool hu, bne]
theorem q_conv {x : Operand} {S D : TypeId} {ds : TypeDesc} {k k' : IntKind} {a : Int} (hs : P.underlying S = some ds) (hd : P.underlying D = some (.int k)) (hx : ev ρ x = .int k' a) :
  QT P base ⟨dst, .convert S D x, t, p, af, g⟩ ρ O (.int k (k.wrap a)) := fun w _ => by
 simp [execOp, hx, convert, run_underlying' hs, run_underlying' hd, Conv.intToInt]
theorem q_conv_id {x : Operand} {S D : TypeId} {ds : TypeDesc} {k k' : IntKind} {a : Int} (hs : P.underlying S = some ds) (hd : P.underlying D = some (.int k)) (hx : ev ρ x = .int k' a) (hw : k.wrap a = a) :
  QT P base ⟨dst, .convert S D x, t, p, af, g⟩ ρ O (.int k a) := by have := q_conv (P := P) (base := base) (O := O) (dst := dst) (t := t) (p := p) (af := af) (g := g) hs hd hx; rwa [hw] at this
theorem q_len {x : Operand} {T : TypeId} {E : TypeId} {b : Option Addr} {n c : Nat} (hu : P.underlying T = some (.slice E)) (hx : ev ρ x = .slice b n c) :
  QT P base ⟨dst, .call ⟨.builtin .len, #[x], #[T]⟩, t, p, af, g⟩ ρ O (.int .i64 (n : Int)) := fun w _ => by
 simp [execOp, resolve, hx, invoke, builtin, Builtin.len_, run_underlying' hu, goInt]
theorem q_extract {x : Operand} {i : Nat} {vs : List Value} {v : Value} (hx : ev ρ x = .tuple vs.toArray) (hv : vs[i]? = some v) : QT P base ⟨dst, .extract x i, t, p, af, g⟩ ρ O v := fun w _ => by
 simp [execOp, hx, Instr.extract, hv]
theorem q_makeFunc {fn : Fn} {first captured : List Operand} : QT P base ⟨dst, .makeFunc fn first.toArray captured.toArray, t, p, af, g⟩ ρ O (.func fn (evs ρ first).toArray (evs ρ captured).toArray) := fun w _ => by
 simp [execOp, Instr.makeFunc, evs_eq]
theorem q_fa {x : Operand} {S : TypeId} {fs : Array Field} {i : Nat} {f : Field} {b o : Nat} {z : Value} {s by_ : Nat} (hu : P.underlying S = some (.struct fs)) (hf : fs[i]? = some f) (hi : Inf P f.type z s by_) (hs : (s == 0) = false)
  (hx : ev ρ x = .pointer (some ⟨b, o, none⟩)) : QT P base ⟨dst, .fieldAddr S x i, t, p, af, g⟩ ρ O (.pointer (some ⟨b, o + f.offset, none⟩)) := fun w _ => by
 have hs' : s ≠ 0 := by simpa using hs
 simp [execOp, hx, Instr.fieldAt, run_underlying' hu, hf, Instr.sureAddr, fieldPlace, run_sizeOf' hi, hs', Addr.add]
 try (intro h; simp [h])
theorem q_indexAddr {x y : Operand} {T E : TypeId} {b o n c i : Nat} {k : IntKind} {z : Value} {s by_ : Nat} (hu : P.underlying T = some (.slice E)) (hi : Inf P E z s by_) (hx : ev ρ x = .slice (some ⟨b, o, none⟩) n c) (hy : ev ρ y = .int k (i : Int)) (hlt : i < n) :
  QT P base ⟨dst, .indexAddr T x y, t, p, af, g⟩ ρ O (.pointer (some ⟨b, o + i * s, none⟩)) := fun w _ => by
 have h2 : (i : Int) < (n : Int) := by omega
 simp [execOp, hx, hy, Instr.indexAt, asIntOf, run_underlying' hu, hlt, run_sizeOf' hi, Addr.add]
 try (intro h; rcases h with h | h <;> simp [h])
theorem q_load_cell {x : Operand} {T : TypeId} {d : TypeDesc} {b o : Nat} {v : Value} (hu : P.underlying T = some d) (ha : aggB d = false) (hx : ev ρ x = .pointer (some ⟨b, o, none⟩))
  (hc : ∀ w, Inv base O w → w.cell? ⟨b, o, none⟩ = some v) : QT P base ⟨dst, .load T x, t, p, af, g⟩ ρ O v := fun w hI => by
 simp [execOp, hx, Instr.loadAt, Instr.sureAddr, loadVar, run_isAgg' hu, ha, hc w hI]
theorem loadCells_run {P : Program} {w : World} {a : Addr} : ∀ (cs : List Value) (i : Nat) (acc : Array Value), (∀ j (h : j < cs.length), w.cell? (a.add (i + j)) = some cs[j]) →
  (loadCellsFrom a i cs.length acc).run P w = .ok (acc ++ cs.toArray) w
 | [], i, acc, _ => by simp [loadCellsFrom]
 | v :: cs, i, acc, h => by
  have h0 : w.cell? (a.add i) = some v := h 0 (by simp)
  have ih := loadCells_run (P := P) cs (i + 1) (acc.push v) (fun j hj => by have := h (j + 1) (by simp; omega); simpa [Nat.add_assoc, Nat.add_comm 1 j] using this)
  simp only [List.length_cons, loadCellsFrom, Sem.run_bind, run_load, h0, Result.andThen_ok, ih]
  simp
theorem q_load_agg {x : Operand} {T : TypeId} {d : TypeDesc} {b o : Nat} {cs : List Value} {z : Value} {s by_ : Nat} (hu : P.underlying T = some d) (ha : aggB d = true) (hi : Inf P T z s by_) (hx : ev ρ x = .pointer (some ⟨b, o, none⟩)) (hl : cs.length = s)
  (hc : ∀ w, Inv base O w → ∀ j (h : j < cs.length), w.cell? ⟨b, o + j, none⟩ = some cs[j]) : QT P base ⟨dst, .load T x, t, p, af, g⟩ ρ O (.agg cs.toArray) := fun w hI => by
 have h := loadCells_run (P := P) (w := w) (a := ⟨b, o, none⟩) cs 0 #[] (fun j hj => by
  have := hc w hI j hj
  simp only [Nat.zero_add, Addr.add]
  split <;> rename_i e
  ·subst e; simpa using this
  ·exact this)
 simp [execOp, hx, Instr.loadAt, Instr.sureAddr, loadVar, run_isAgg' hu, ha, run_sizeOf' hi, loadCells, ← hl, h]
end
def Sl (w : World) (b : Option Addr) (cs : List Value) : Prop := ∀ i (h : i < cs.length), ∃ a, b = some a ∧ a.spot = none ∧ w.cell? ⟨a.block, a.off + i, none⟩ = some cs[i]
theorem Sl.nil (w : World) (b : Option Addr) : Sl w b [] := fun i h => by simp at h
theorem Sl.keep {w w' : World} {b : Option Addr} {cs : List Value} (h : Sl w b cs) (hb : ∀ k, k < w.heap.size → w'.heap[k]? = w.heap[k]?) : Sl w' b cs := fun i hi => by
 obtain ⟨a, h1, h2, h3⟩ := h i hi
 refine ⟨a, h1, h2, ?_⟩
 have hlt := World.block_lt_of_cell? _ _ h3
 unfold World.cell? at h3 ⊢
 rw [hb _ hlt]
 exact h3
theorem Sl.below {w w' : World} {b : Option Addr} {cs : List Value} (h : Sl w b cs) (hb : Below w.heap.size w w') : Sl w' b cs := h.keep hb.block
theorem Inv.sl {base : World} {O : List Item} {w : World} (hI : Inv base O w) {b : Option Addr} {cs : List Value} (h : Sl base b cs) : Sl w b cs := h.below hI.below
theorem Sl.addr {w : World} {b : Option Addr} {cs : List Value} (h : Sl w b cs) {i : Nat} (hi : i < cs.length) : ∃ k o, b = some ⟨k, o, none⟩ := by
 obtain ⟨⟨k, o, s⟩, h1, h2, _⟩ := h i hi
 simp only at h2; subst h2
 exact ⟨k, o, h1⟩
theorem Sl.get {w : World} {k o : Nat} {cs : List Value} (h : Sl w (some ⟨k, o, none⟩) cs) {i : Nat} {v : Value} (hv : cs[i]? = some v) : w.cell? ⟨k, o + i, none⟩ = some v := by
 obtain ⟨hi, e⟩ := List.getElem?_eq_some_iff.1 hv
 obtain ⟨a, h1, _, h3⟩ := h i hi
 cases h1
 rw [h3, e]
def rowP (b : Option Addr) (c : Nat) (T : TypeId) (k : Nat) (cs : List Value) (w : World) : Prop :=
 match b with
 | none => cs = [] ∧ c = 0
 | some a => a.spot = none ∧ ∃ full, w.heap[a.block]? = some (.cells full T (0, 0)) ∧ cs.length ≤ c * k ∧ a.off + c * k ≤ full.size ∧ ∀ i (h : i < cs.length), full[a.off + i]? = some cs[i]
def rowI (b : Option Addr) (c : Nat) (T : TypeId) (k : Nat) (cs : List Value) : Item where
 blocks := match b with | none => [] | some a => [a.block]
 P := rowP b c T k cs
 loc := fun w w' h hp => by
  cases b with
  | none => exact hp
  | some a =>
   obtain ⟨h1, full, h2, h3⟩ := hp
   exact ⟨h1, full, (h a.block (by simp)).trans h2, h3⟩
theorem rowP.sl {b : Option Addr} {c : Nat} {T : TypeId} {k : Nat} {cs : List Value} {w : World} (h : rowP b c T k cs w) : Sl w b cs := fun i hi => by
 cases b with
 | none => rw [h.1] at hi; simp at hi
 | some a =>
  obtain ⟨h1, full, h2, _, _, h5⟩ := h
  refine ⟨a, rfl, h1, ?_⟩
  unfold World.cell?
  simp [h2, h5 i hi]
theorem Inv.row {base : World} {O : List Item} {w : World} (hI : Inv base O w) {i : Nat} {b : Option Addr} {c : Nat} {T : TypeId} {k : Nat} {cs : List Value} (h : O[i]? = some (rowI b c T k cs)) : rowP b c T k cs w :=
 hI.holds _ (List.mem_of_getElem? h)
theorem Inv.objAt {base : World} {O : List Item} {w : World} (hI : Inv base O w) {i : Nat} {b : Nat} {o : Obj} (h : O[i]? = some (objI b o)) : w.heap[b]? = some o :=
 hI.holds _ (List.mem_of_getElem? h)
section
variable {P : Program} {base : World} {ρ : Env} {O : List Item} {dst : Option Nat} {t : TypeId} {p : String} {af : Array Edge} {g : Option (Nat × Bool)}
theorem q_lb (i : Nat) {x : Operand} {T E : TypeId} {d : TypeDesc} {b o : Nat} {cs : List Value} {fr : Nat × Nat} {v : Value} (hu : P.underlying T = some d) (ha : aggB d = false) (hx : ev ρ x = .pointer (some ⟨b, o, none⟩))
  (hO : O[i]? = some (objI b (.cells cs.toArray E fr))) (hv : cs[o]? = some v) : QT P base ⟨dst, .load T x, t, p, af, g⟩ ρ O v :=
 q_load_cell hu ha hx fun w hI => by have := hI.objAt hO; unfold World.cell?; simp [this, hv]
theorem q_la (i : Nat) {x : Operand} {T E : TypeId} {d : TypeDesc} {b : Nat} {cs : List Value} {fr : Nat × Nat} {z : Value} {s by_ : Nat} (hu : P.underlying T = some d) (ha : aggB d = true) (hi : Inf P T z s by_) (hx : ev ρ x = .pointer (some ⟨b, 0, none⟩)) (hl : cs.length = s)
  (hO : O[i]? = some (objI b (.cells cs.toArray E fr))) : QT P base ⟨dst, .load T x, t, p, af, g⟩ ρ O (.agg cs.toArray) :=
 q_load_agg hu ha hi hx hl fun w hI j hj => by have := hI.objAt hO; unfold World.cell?; simp [this]
theorem q_load_sl {x : Operand} {T : TypeId} {d : TypeDesc} {b o i : Nat} {cs : List Value} {v : Value} (hu : P.underlying T = some d) (ha : aggB d = false) (hx : ev ρ x = .pointer (some ⟨b, o + i, none⟩))
  (hs : Sl base (some ⟨b, o, none⟩) cs) (hv : cs[i]? = some v) : QT P base ⟨dst, .load T x, t, p, af, g⟩ ρ O v :=
 q_load_cell hu ha hx fun _ hI => (hI.sl hs).get hv
end
end Go.Lx


namespace Go.Lx
open Go.RowKit
def oneB : Value → Bool
 | .agg _ | .tuple _ => false
 | _ => true
def putL (cs : List Value) : Nat → List Value → List Value
 | _, [] => cs
 | o, v :: vs => putL (cs.set o v) (o + 1) vs
theorem putL_length (vs : List Value) : ∀ (cs : List Value) (o : Nat), (putL cs o vs).length = cs.length := by
 induction vs with
 | nil => intro cs o; rfl
 | cons v vs ih => intro cs o; simp [putL, ih]
theorem putL_get (vs : List Value) : ∀ (cs : List Value) (o i : Nat), o + vs.length ≤ cs.length → (putL cs o vs)[i]? = if o ≤ i ∧ i < o + vs.length then vs[i - o]? else cs[i]? := by
 induction vs with
 | nil => intro cs o i h; simp [putL]; intro h1 h2; omega
 | cons v vs ih =>
  intro cs o i h
  simp only [putL, List.length_cons] at h ⊢
  rw [ih _ _ _ (by simp; omega)]
  by_cases h1 : o + 1 ≤ i ∧ i < o + 1 + vs.length
  ·rw [if_pos h1, if_pos (by omega)]
   have : i - o = (i - (o + 1)) + 1 := by omega
   rw [this]; simp
  ·rw [if_neg h1]
   by_cases h2 : i = o
   ·subst h2
    rw [if_pos (by omega)]
    simp
    rw [List.getElem?_set_self (by omega)]
   ·rw [if_neg (by omega), List.getElem?_set_ne (by omega)]
def setB (w : World) (b : Nat) (o : Obj) : World := { w with heap := w.heap.setIfInBounds b o }
theorem setB_same {w : World} {b : Nat} {o : Obj} (h : b < w.heap.size) : (setB w b o).heap[b]? = some o := by simp [setB, h]
theorem setB_other {w : World} {b k : Nat} {o : Obj} (h : k ≠ b) : (setB w b o).heap[k]? = w.heap[k]? := by simp [setB, Array.getElem?_setIfInBounds_ne (Ne.symm h)]
theorem setB_size {w : World} {b : Nat} {o : Obj} : (setB w b o).heap.size = w.heap.size := by simp [setB]
theorem setCell_setB {w : World} {b o : Nat} {v : Value} {cs : List Value} {T : TypeId} {fr : Nat × Nat} (h : w.heap[b]? = some (.cells cs.toArray T fr)) : w.setCell ⟨b, o, none⟩ v = setB w b (.cells (cs.set o v).toArray T fr) := by
 unfold World.setCell setB
 congr 1
 apply Array.ext_getElem?
 intro i
 rw [Array.getElem?_modify]
 by_cases e : b = i
 ·subst e
  obtain ⟨hlt, e⟩ := Array.getElem?_eq_some_iff.1 h
  simp [hlt, e]
 ·simp [e, Array.getElem?_setIfInBounds_ne e]
theorem setB_setB {w : World} {b : Nat} {o o' : Obj} : setB (setB w b o) b o' = setB w b o' := by
 unfold setB; simp
theorem run_store1 {P : Program} {w : World} {b o : Nat} {v : Value} {cs : List Value} {T : TypeId} (h : w.heap[b]? = some (.cells cs.toArray T (0, 0))) (ho : o < cs.length) (hv : oneB v = true) :
  (store ⟨b, o, none⟩ v).run P w = .ok () (setB w b (.cells (cs.set o v).toArray T (0, 0))) := by
 have hc : w.cell? ⟨b, o, none⟩ = some cs[o] := by unfold World.cell?; simp [h, ho]
 have hf : w.frozen? ⟨b, o, none⟩ = false := by unfold World.frozen?; simp [h]
 have hv' : v.oneCell' = true := by cases v <;> simp_all [oneB, Value.oneCell']
 rw [run_store P w _ _ _ hv', hc]
 simp [hf, setCell_setB h]
theorem storeCells_run {P : Program} {b o : Nat} {T : TypeId} : ∀ (vs : List Value) (cs : List Value) (i : Nat) (w : World), w.heap[b]? = some (.cells cs.toArray T (0, 0)) → o + i + vs.length ≤ cs.length → (vs.all oneB) = true →
  (storeCells ⟨b, o, none⟩ vs i).run P w = .ok () (setB w b (.cells (putL cs (o + i) vs).toArray T (0, 0)))
 | [], cs, i, w, h, _, _ => by
  have : setB w b (.cells cs.toArray T (0, 0)) = w := by
   unfold setB
   have : w.heap.setIfInBounds b (.cells cs.toArray T (0, 0)) = w.heap := by
    apply Array.ext_getElem?
    intro k
    by_cases e : b = k
    ·subst e
     obtain ⟨hlt, e⟩ := Array.getElem?_eq_some_iff.1 h
     simp [hlt, e]
    ·rw [Array.getElem?_setIfInBounds_ne e]
   rw [this]
  simp [storeCells, putL, this]
 | v :: vs, cs, i, w, h, hl, hv => by
  simp only [List.length_cons, List.all_cons, Bool.and_eq_true] at hl hv
  have e : (Addr.add ⟨b, o, none⟩ i) = ⟨b, o + i, none⟩ := by
   unfold Addr.add; split <;> rename_i h <;> first | (subst h; rfl) | rfl
  have h1 := run_store1 (P := P) h (o := o + i) (v := v) (by omega) hv.1
  have hlt := (Array.getElem?_eq_some_iff.1 h).1
  have h2 := storeCells_run (P := P) (b := b) (o := o) (T := T) vs (cs.set (o + i) v) (i + 1) (setB w b (.cells (cs.set (o + i) v).toArray T (0, 0))) (setB_same hlt) (by simp; omega) hv.2
  simp only [storeCells, e, Sem.run_bind, h1, Result.andThen_ok, h2, setB_setB, putL]
  rfl
section
variable {P : Program} {r : Option Nat} {base : World} {n : Nat} {ρ : Env} {O : List Item} {K : Env → List Item → Prop} {d : Nat} {t : TypeId} {p : String} {af : Array Edge} {g : Option (Nat × Bool)}
theorem at_app {M : List Item} {j : Nat} {it : Item} (h : O[j]? = some it) : (O ++ M)[j]? = some it := by
 rw [List.getElem?_append_left (List.getElem?_eq_some_iff.1 h).1]; exact h
theorem set_app {M : List Item} {j : Nat} {it : Item} (h : O[j]? = some it) (x : Item) : (O ++ M).set j x = O.set j x ++ M :=
 List.set_append_left _ _ (List.getElem?_eq_some_iff.1 h).1
theorem LT.of_run {op : Op} (hn : Nat.blt d n = true)
  (h : ∀ w M, Inv base (O ++ M) w → ∃ v w' O', (execOp (ev ρ) ⟨some d, op, t, p, af, g⟩).run P w = .ok (.value v) w' ∧ Inv base (O' ++ M) w' ∧ K (upd ρ d v) O') : LT P r base n ⟨some d, op, t, p, af, g⟩ ρ O K := by
 intro a w M ds ha hi next Qx hnext
 obtain ⟨v, w', O', hr, hI, hK⟩ := h w M hi
 rw [← ha.eval] at hr
 refine wpIn_Fr (notDefer hr (by simp)) ?_
 rw [hr]
 exact hnext _ _ _ _ (ha.put hn v) hI hK
theorem LT.of_skip {op : Op}
  (h : ∀ w M, Inv base (O ++ M) w → ∃ w' O', (execOp (ev ρ) ⟨none, op, t, p, af, g⟩).run P w = .ok .skip w' ∧ Inv base (O' ++ M) w' ∧ K ρ O') : LT P r base n ⟨none, op, t, p, af, g⟩ ρ O K := by
 intro a w M ds ha hi next Qx hnext
 obtain ⟨w', O', hr, hI, hK⟩ := h w M hi
 rw [← ha.eval] at hr
 refine wpIn_Fr (notDefer hr (by simp)) ?_
 rw [hr]
 exact hnext _ _ _ _ ha hI hK
theorem Sub.app {O' M : List Item} (h : Sub O' O) : Sub (O' ++ M) (O ++ M) := by
 obtain ⟨l, hp, hs⟩ := h
 exact ⟨l ++ M, hp.append_right M, hs.append (List.Sublist.refl M)⟩
theorem Inv.nilRow {w : World} (h : Inv base O w) (E : TypeId) (k : Nat) : Inv base (rowI none 0 E k [] :: O) w :=
 Inv.new (N := [rowI none 0 E k []]) h rfl rfl rfl (Nat.le_refl _) (fun _ _ => rfl) (by simp [rowI, rowP]) (by simp [rowI]) (by simp [rowI])
theorem T.nilRow {c : Code} {Q : Post} (E : TypeId) (k : Nat) (h : T P r base n c Q ρ (rowI none 0 E k [] :: O)) : T P r base n c Q ρ O :=
 fun a w M D hM ha hi => h a w M D hM ha (hi.nilRow E k)
theorem T.sub {c : Code} {Q : Post} {O' : List Item} (hs : Sub O' O) (h : T P r base n c Q ρ O') : T P r base n c Q ρ O :=
 fun a w M D hM ha hi => h a w M D hM ha (hi.subp hs.app)
theorem l_alloc {E : TypeId} {z : Value} {s by_ : Nat} {cs : List Value} (hi : Inf P E z s by_) (hz : z.cells = cs.toArray)
  (h : ∀ b, K (upd ρ d (.pointer (some ⟨b, 0, none⟩))) (objI b (.cells cs.toArray E (0, 0)) :: O)) (hn : Nat.blt d n = true := by rfl) : LT P r base n ⟨some d, .alloc E, t, p, af, g⟩ ρ O K :=
 LT.of_run hn fun w M hI => ⟨_, _, _, by simp [execOp, Instr.alloc, run_zeroValue' hi, newVar, newRow, hz], hI.alloc _, h _⟩
theorem l_box {E : TypeId} {x : Operand} {v : Value} {cs : List Value} (hx : ev ρ x = v) (hv : v.cells = cs.toArray)
  (h : ∀ b, K (upd ρ d (.pointer (some ⟨b, 0, none⟩))) (objI b (.cells cs.toArray E (0, 0)) :: O)) (hn : Nat.blt d n = true := by rfl) : LT P r base n ⟨some d, .box E x, t, p, af, g⟩ ρ O K :=
 LT.of_run hn fun w M hI => ⟨_, _, _, by simp [execOp, Instr.box, newVar, newRow, hx, hv], hI.alloc _, h _⟩
theorem Inv.setBox {w : World} (hI : Inv base O w) {i : Nat} {b : Nat} {o : Obj} (hO : O[i]? = some (objI b o)) (o' : Obj) : Inv base (O.set i (objI b o')) (setB w b o') := by
 have hb := hI.objAt hO
 have hlt := (Array.getElem?_eq_some_iff.1 hb).1
 refine hI.stepAt hO rfl rfl rfl (by rw [setB_size]; exact Nat.le_refl _) (fun k _ hk => setB_other (fun e => hk (by simp [objI, e]))) (setB_same hlt) (fun k hk => .inl hk) (by simp [objI])
theorem Inv.setRow {w : World} (hI : Inv base O w) {i b o c : Nat} {T : TypeId} {k : Nat} {cs cs' : List Value} {full : Array Value} (hO : O[i]? = some (rowI (some ⟨b, o, none⟩) c T k cs)) (hl : cs'.length ≤ c * k)
  (hf : o + c * k ≤ full.size) (hc : ∀ j (h : j < cs'.length), full[o + j]? = some cs'[j]) : Inv base (O.set i (rowI (some ⟨b, o, none⟩) c T k cs')) (setB w b (.cells full T (0, 0))) := by
 obtain ⟨_, full0, hb, _, _⟩ := hI.row hO
 have hlt := (Array.getElem?_eq_some_iff.1 hb).1
 refine hI.stepAt hO rfl rfl rfl (by rw [setB_size]; exact Nat.le_refl _) (fun k _ hk => setB_other (fun e => hk (by simp [rowI, e]))) ⟨rfl, full, setB_same hlt, hl, hf, hc⟩ (fun k hk => .inl hk) (by simp [rowI])
theorem run_storeVar {T : TypeId} {z : Value} {s by_ b o : Nat} {v : Value} {vs cs : List Value} {E : TypeId} {w : World} (hi : Inf P T z s by_) (hv : v.cells = vs.toArray) (hl : vs.length = s) (ho : (vs.all oneB) = true)
  (h : w.heap[b]? = some (.cells cs.toArray E (0, 0))) (hr : o + vs.length ≤ cs.length) : (storeVar T ⟨b, o, none⟩ v).run P w = .ok () (setB w b (.cells (putL cs o vs).toArray E (0, 0))) := by
 have := storeCells_run (P := P) (b := b) (o := o) (T := E) vs cs 0 w h (by omega) ho
 unfold storeVar
 simp [run_sizeOf' hi, hv, hl]
 exact this
theorem l_sb (i : Nat) {T E : TypeId} {x y : Operand} {b o : Nat} {v : Value} {vs cs : List Value} {z : Value} {s by_ : Nat} (hi : Inf P T z s by_) (hx : ev ρ x = .pointer (some ⟨b, o, none⟩)) (hy : ev ρ y = v) (hv : v.cells = vs.toArray) (hl : vs.length = s) (ho : (vs.all oneB) = true)
  (hO : O[i]? = some (objI b (.cells cs.toArray E (0, 0)))) (hr : o + vs.length ≤ cs.length)
  (h : K ρ (O.set i (objI b (.cells (putL cs o vs).toArray E (0, 0))))) : LT P r base n ⟨none, .store T x y, t, p, af, g⟩ ρ O K :=
 LT.of_skip fun w M hI => ⟨setB w b (.cells (putL cs o vs).toArray E (0, 0)), _, by
  simp only [execOp, hx, hy, Instr.storeAt, Instr.sureAddr]
  simp [run_storeVar hi hv hl ho (hI.objAt (at_app hO)) hr], by have := hI.setBox (at_app hO) (.cells (putL cs o vs).toArray E (0, 0)); rwa [set_app hO] at this, h⟩
theorem l_store_row (i : Nat) {T E : TypeId} {x y : Operand} {b o j c k : Nat} {v : Value} {vs cs : List Value} {z : Value} {s by_ : Nat} (hi : Inf P T z s by_) (hx : ev ρ x = .pointer (some ⟨b, o + j, none⟩)) (hy : ev ρ y = v) (hv : v.cells = vs.toArray) (hl : vs.length = s) (ho : (vs.all oneB) = true)
  (hO : O[i]? = some (rowI (some ⟨b, o, none⟩) c E k cs)) (hr : j + vs.length ≤ cs.length)
  (h : K ρ (O.set i (rowI (some ⟨b, o, none⟩) c E k (putL cs j vs)))) : LT P r base n ⟨none, .store T x y, t, p, af, g⟩ ρ O K :=
 LT.of_skip fun w M hI => by
  obtain ⟨_, full, hb, h1, h2, h3⟩ := hI.row (at_app hO)
  simp only at hb h2 h3
  obtain ⟨fl, rfl⟩ : ∃ fl : List Value, full = fl.toArray := ⟨full.toList, by simp⟩
  simp only [List.size_toArray] at h2
  refine ⟨setB w b (.cells (putL fl (o + j) vs).toArray E (0, 0)), _, ?_, set_app hO (rowI (some ⟨b, o, none⟩) c E k (putL cs j vs)) ▸ hI.setRow (at_app hO) (cs' := putL cs j vs) (by rw [putL_length]; exact h1) (by simp [putL_length]; exact h2) ?_, h⟩
  ·have hr' : o + j + vs.length ≤ fl.length := by omega
   simp only [execOp, hx, hy, Instr.storeAt, Instr.sureAddr]
   simp [run_storeVar hi hv hl ho hb hr']
  ·intro m hm
   rw [putL_length] at hm
   have e1 : (putL fl (o + j) vs).toArray[o + m]? = (putL fl (o + j) vs)[o + m]? := by simp
   have e2 : (putL cs j vs)[m]? = some ((putL cs j vs)[m]'(by rw [putL_length]; exact hm)) := List.getElem?_eq_getElem _
   rw [e1, ← e2, putL_get vs fl (o + j) (o + m) (by omega), putL_get vs cs j m (by omega)]
   by_cases hin : j ≤ m ∧ m < j + vs.length
   ·rw [if_pos hin, if_pos (by omega)]
    congr 1; omega
   ·rw [if_neg hin, if_neg (by omega)]
    have := h3 m hm
    simpa [List.getElem?_eq_getElem hm] using this
theorem map_range0 {α : Type} (f : Nat → α) : (Array.range 0).map f = #[] := by simp
theorem zeros_one (z : Value) (m : Nat) : ((Array.range m).map fun i => (#[z] : Array Value)[i % (#[z] : Array Value).size]!) = (List.replicate m z).toArray := by
 apply Array.ext_getElem?
 intro i
 rw [Array.getElem?_map, Array.getElem?_range]
 by_cases h : i < m
 ·simp [h, Nat.mod_one]
 ·simp [h]
theorem l_makeSlice {T E : TypeId} {x : Operand} {k : IntKind} {m : Nat} {z : Value} {by_ : Nat} (hu : P.underlying T = some (.slice E)) (hi : Inf P E z 1 by_) (hz : z.cells = #[z]) (hx : ev ρ x = .int k (m : Int)) (hm : m * by_ ≤ 140737488355328) (hm' : m ≤ 9223372036854775807)
  (h : ∀ b, K (upd ρ d (.slice (some ⟨b, 0, none⟩) m m)) (rowI (some ⟨b, 0, none⟩) m E 1 (List.replicate m z) :: O)) (hn : Nat.blt d n = true := by rfl) : LT P r base n ⟨some d, .makeSlice T x x, t, p, af, g⟩ ρ O K :=
 LT.of_run hn fun w M hI => by
  obtain ⟨i, hi1, hi2, hi3, hi4⟩ := hi.get
  have hw : IntKind.i64.wrap (m : Int) = (m : Int) := wrap64_id (by omega)
  have hnot : ¬ ((by_ : Int) * (m : Int) > 2 ^ 48) := by
   have h1 : ((m * by_ : Nat) : Int) ≤ 140737488355328 := Int.ofNat_le.2 hm
   rw [Nat.mul_comm, Int.natCast_mul] at h1
   have h2 : (2 : Int) ^ 48 = 281474976710656 := by rfl
   rw [h2]; omega
  have hnot' : decide ((by_ : Int) * (m : Int) > 2 ^ 48) = false := decide_eq_false hnot
  refine ⟨.slice (some ⟨w.heap.size, 0, none⟩) m m, w.alloc (.cells (List.replicate m z).toArray E), _, ?_, Inv.new (O := O ++ M) (w' := w.alloc (.cells (List.replicate m z).toArray E)) (N := [rowI (some ⟨w.heap.size, 0, none⟩) m E 1 (List.replicate m z)]) hI rfl rfl rfl (by simp) (fun b hb => Below.heap_alloc w _ b hb) ?_ ?_ ?_, h _⟩
  ·have hneg : decide ((m : Int) < 0) = false := by simp
   simp only [execOp, hx, Instr.makeSlice, Sem.run_bind, run_underlying' hu, Result.andThen_ok, asInt, asIntOf, Sem.run_pure, run_typeInfo' hi1, hi4, hw, hnot', hneg, Bool.or_false, Bool.or_self, Int.lt_irrefl, gt_iff_lt, decide_false, Bool.false_eq_true, if_false, run_askRoom, run_sizeOf' hi, Nat.mul_one, Int.toNat_natCast]
   by_cases h0 : m = 0
   ·subst h0
    simp [newRow, map_range0]
   ·simp [h0, hz, newRow, run_zeroValue' hi]
    have := zeros_one z m
    simp at this
    rw [this]
  ·intro x hx
   simp at hx; subst hx
   refine ⟨rfl, (List.replicate m z).toArray, ?_, by simp, by simp, fun j hj => by simp at hj; simp [hj]⟩
   show (w.heap.push _)[w.heap.size]? = _
   simp
  ·intro x hx b hb
   simp at hx; subst hx
   simp [rowI] at hb; subst hb
   simp
  ·simp [rowI]
theorem l_buildSlice {T E : TypeId} {m : Nat} {parts : List (Nat × Operand)} {z : Value} {s by_ : Nat} {cs : List Value} (hu : P.underlying T = some (.slice E)) (hi : Inf P E z s by_) (h24 : m * s ≤ 16777216)
  (hf : Instr.fill (fun i => some (i * s, s)) ((Array.range (m * s)).map (z.cells[· % z.cells.size]!)) (parts.map fun q => (q.1, ev ρ q.2)) = some cs.toArray) (hl : cs.length = m * s)
  (h : ∀ b, K (upd ρ d (.slice (some ⟨b, 0, none⟩) m m)) (rowI (some ⟨b, 0, none⟩) m E s cs :: O)) (hn : Nat.blt d n = true := by rfl) : LT P r base n ⟨some d, .buildSlice T m parts.toArray, t, p, af, g⟩ ρ O K :=
 LT.of_run hn fun w M hI => by
  refine ⟨.slice (some ⟨w.heap.size, 0, none⟩) m m, w.alloc (.cells cs.toArray E), _, ?_, Inv.new (O := O ++ M) (w' := w.alloc (.cells cs.toArray E)) (N := [rowI (some ⟨w.heap.size, 0, none⟩) m E s cs]) hI rfl rfl rfl (by simp) (fun b hb => Below.heap_alloc w _ b hb) ?_ ?_ ?_, h _⟩
  ·have hno : ¬ (m * s > 2 ^ 24) := by omega
   by_cases h0 : m * s = 0
   ·have hf' : Instr.fill (fun i => some (i * s, s)) #[] (parts.map fun q => (q.1, ev ρ q.2)) = some cs.toArray := by rw [h0, map_range0] at hf; exact hf
    simp only [execOp, Instr.buildSlice, Sem.run_bind, run_underlying' hu, run_sizeOf' hi, Result.andThen_ok, h0, gt_iff_lt, if_true, Sem.run_pure, map_range0]
    have hlt : ¬ (2 ^ 24 < 0) := by omega
    simp [hf', newRow]
   ·simp [execOp, Instr.buildSlice, run_underlying' hu, run_sizeOf' hi, hno, h0, run_zeroValue' hi, hf, newRow]
  ·intro x hx
   simp at hx; subst hx
   refine ⟨rfl, cs.toArray, ?_, by rw [hl]; exact Nat.le_refl _, by simp [hl], fun j hj => by simp [hj]⟩
   show (w.heap.push _)[w.heap.size]? = _
   simp
  ·intro x hx b hb
   simp at hx; subst hx
   simp [rowI] at hb; subst hb
   simp
  ·simp [rowI]
theorem zeros_any (z : Array Value) (m : Nat) : (Builtin.zeroCells z m).size = m * z.size := by simp [Builtin.zeroCells]
theorem growBy_le (need : Nat) : ∀ (r c : Nat), c ≤ 2 * need → Builtin.growBy need r c ≤ 2 * need + 192
 | 0, c, h => by simp [Builtin.growBy]; omega
 | r + 1, c, h => by
  simp only [Builtin.growBy]
  split
  ·omega
  ·by_cases h2 : c + (c + 768) / 4 ≤ 2 * need
   ·exact growBy_le need r _ h2
   ·have : ∀ r, Builtin.growBy need r (c + (c + 768) / 4) = c + (c + 768) / 4 := by
     intro r
     cases r with
     | zero => rfl
     | succ r => simp only [Builtin.growBy]; rw [if_pos (by omega)]
    rw [this]; omega
theorem nextcap_le {need cap : Nat} (h : cap < need) : Builtin.nextslicecap need cap ≤ 2 * need + 192 := by
 unfold Builtin.nextslicecap
 split
 ·omega
 ·split
  ·omega
  ·exact growBy_le need 4 cap (by omega)
theorem firstCells_run {P : Program} {w : World} {b : Option Addr} {m c s : Nat} {cs : List Value} (h : Sl w b cs) (hl : cs.length = m * s) (hb : b = none → cs = []) :
  (Builtin.firstCells s m (.slice b m c)).run P w = .ok cs.toArray w := by
 cases b with
 | none => rw [hb rfl]; rfl
 | some a =>
  obtain ⟨k, o, sp⟩ := a
  simp only [Builtin.firstCells, ← hl, loadCells]
  by_cases h0 : cs.length = 0
  ·have : cs = [] := List.length_eq_zero_iff.1 h0
   subst this; rfl
  ·obtain ⟨a', e1, e2, _⟩ := h 0 (by omega)
   cases e1
   simp only at e2; subst e2
   have := loadCells_run (P := P) (w := w) (a := ⟨k, o, none⟩) cs 0 #[] (fun j hj => by
    have := h.get (List.getElem?_eq_getElem hj)
    simp only [Nat.zero_add, Addr.add]
    split <;> rename_i e
    ·subst e; simpa using this
    ·exact this)
   simpa using this
def Src (P : Program) (base : World) (O : List Item) (s m : Nat) (x : Value) (cs : List Value) : Prop :=
 cs.length = m * s ∧ (∀ w, (Builtin.lenOf x).run P w = .ok m w) ∧ ∀ w, Inv base O w → (Builtin.firstCells s m x).run P w = .ok cs.toArray w
theorem Src.app {b : World} {M : List Item} {s m : Nat} {x : Value} {cs : List Value} (h : Src P b O s m x cs) : Src P b (O ++ M) s m x cs := ⟨h.1, h.2.1, fun w hI => h.2.2 w hI.left⟩
theorem Src.row {j : Nat} {b : Option Addr} {c k m : Nat} {E : TypeId} {cs : List Value} (hO : O[j]? = some (rowI b c E k cs)) (hl : cs.length = m * k) (c' : Nat := c) : Src P base O k m (.slice b m c') cs :=
 ⟨hl, fun w => by simp [Builtin.lenOf], fun w hI => firstCells_run (hI.row hO).sl hl (fun e => by subst e; exact (hI.row hO).1)⟩
theorem Src.sl {b : Option Addr} {c k m : Nat} {cs : List Value} (h : Sl base b cs) (hl : cs.length = m * k) : Src P base O k m (.slice b m c) cs :=
 ⟨hl, fun w => by simp [Builtin.lenOf], fun w hI => firstCells_run (hI.sl h) hl (fun e => by
  cases cs with
  | nil => rfl
  | cons v cs => obtain ⟨a, h1, _⟩ := h 0 (by simp); rw [e] at h1; cases h1)⟩
theorem add_off {b o i : Nat} : (Addr.add ⟨b, o, none⟩ i) = ⟨b, o + i, none⟩ := by
 unfold Addr.add; split <;> rename_i h <;> first | (subst h; rfl) | rfl
theorem cut_cap (need old t : Nat) (e : TypeId) : need ≤ (Question.appendCap need old e).cut t := Nat.le_add_right _ _
theorem run_append {T U E : TypeId} {xd : TypeDesc} {b : Option Addr} {m c l s by_ : Nat} {x z : Value} {cs new : List Value} {j : Nat} {ty : TypeId}
  (hu : P.underlying T = some (.slice E)) (hxu : P.underlying U = some xd) (hxi : (∃ XE, xd = .slice XE) ∨ xd = .string) (hi : Inf P E z s by_) (hz : z.cells.size = s)
  (hO : O[j]? = some (rowI b c E s cs)) (hl : cs.length = m * s) (_hs : 0 < s)
  (hx : Src P base O s l x new) (hone : (new.all oneB) = true) (hsz : (m + l) * by_ ≤ 70368744177664) (hby : by_ ≤ 1000000) (hsz' : 0 < by_) {w : World} (hI : Inv base O w) :
  ∃ b' c' w', (Builtin.append_ #[T, U] ty #[.slice b m c, x]).run P w = .ok (.slice b' (m + l) c') w' ∧ Inv base (O.set j (rowI b' c' E s (cs ++ new))) w' := by
 obtain ⟨hnl, hlen, hfirst⟩ := hx
 obtain ⟨i, hi1, hi2, hi3, hi4⟩ := hi.get
 have hrow := hI.row hO
 have hfx := hfirst w hI
 have hfs : (Builtin.firstCells s m (.slice b m c)).run P w = .ok cs.toArray w := firstCells_run hrow.sl hl (fun e => by subst e; exact hrow.1)
 by_cases hfit : m + l ≤ c
 ·-- there is room
  cases b with
  | none =>
   obtain ⟨rfl, rfl⟩ := hrow
   have hm0 : m = 0 := by omega
   have hl0 : l = 0 := by omega
   subst hm0; subst hl0
   have hn0 : new = [] := List.length_eq_zero_iff.1 (by omega)
   subst hn0
   refine ⟨none, 0, w, ?_, ?_⟩
   ·rcases hxi with ⟨XE, rfl⟩ | rfl <;> simp [Builtin.append_, run_underlying' hu, run_underlying' hxu, run_sizeOf' hi, hlen, hfx]
   ·simp only [List.append_nil]
    obtain ⟨A, B, e, hset⟩ := split_at hO
    rw [hset, ← e]
    exact hI
  | some a =>
   obtain ⟨k, o, sp⟩ := a
   obtain ⟨hsp, full, hb, h1, h2, h3⟩ := hrow
   simp only at hsp hb h1 h2 h3
   subst hsp
   obtain ⟨fl, rfl⟩ : ∃ fl : List Value, full = fl.toArray := ⟨full.toList, by simp⟩
   simp only [List.size_toArray] at h2
   have hmul : m * s + l * s ≤ c * s := by rw [← Nat.add_mul]; exact Nat.mul_le_mul_right s hfit
   have hr : o + m * s + 0 + new.length ≤ fl.length := by omega
   have hst := storeCells_run (P := P) (b := k) (o := o + m * s) (T := E) new fl 0 w hb hr hone
   refine ⟨some ⟨k, o, none⟩, c, _, ?_, hI.setRow hO (cs' := cs ++ new) (full := (putL fl (o + m * s + 0) new).toArray) (by simp; omega) (by simp [putL_length]; exact h2) ?_⟩
   ·rcases hxi with ⟨XE, rfl⟩ | rfl <;> simp [Builtin.append_, run_underlying' hu, run_underlying' hxu, run_sizeOf' hi, hlen, hfx, hfit, add_off]
    all_goals (simp at hst; rw [hst]; rfl)
   ·intro q hq
    simp only [List.length_append] at hq
    have e1 : (putL fl (o + m * s + 0) new).toArray[o + q]? = (putL fl (o + m * s) new)[o + q]? := by simp
    have e2 : some ((cs ++ new)[q]'(by simp; omega)) = (cs ++ new)[q]? := (List.getElem?_eq_getElem _).symm
    rw [e1, e2, putL_get new fl (o + m * s) (o + q) (by omega)]
    by_cases hin : m * s ≤ q
    ·rw [if_pos (by omega), List.getElem?_append_right (by omega)]
     congr 1; omega
    ·rw [if_neg (by omega), List.getElem?_append_left (by omega)]
     have := h3 q (by omega)
     simpa [List.getElem?_eq_getElem (show q < cs.length by omega)] using this
 ·-- a new array
  obtain ⟨cap, hcap⟩ : ∃ cap, (Question.appendCap (m + l) c E).cut (w.tape w.drawn (Question.appendCap (m + l) c E)) = cap := ⟨_, rfl⟩
  have hle : m + l ≤ cap := hcap ▸ cut_cap (m + l) c _ E
  have hforced : (Question.appendCap (m + l) c E).forced = false := rfl
  have hI' : Inv base O w.drew := hI.drew
  have hfx' := hfirst _ hI'
  have hrow' := hI'.row hO
  have hfs' : (Builtin.firstCells s m (.slice b m c)).run P w.drew = .ok cs.toArray w.drew := firstCells_run hrow'.sl hl (fun e => by subst e; exact hrow'.1)
  have hnext : ¬ (Builtin.nextslicecap (m + l) c * by_ > 2 ^ 48) := by
   have h1 := nextcap_le (need := m + l) (cap := c) (by omega)
   have h2 : Builtin.nextslicecap (m + l) c * by_ ≤ (2 * (m + l) + 192) * by_ := Nat.mul_le_mul_right _ h1
   have h3 : (2 * (m + l) + 192) * by_ = 2 * ((m + l) * by_) + 192 * by_ := by rw [Nat.add_mul, Nat.mul_assoc]
   omega
  obtain ⟨w', hw'⟩ : ∃ w' : World, w' = w.drew.alloc (.cells (cs.toArray ++ new.toArray ++ Builtin.zeroCells z.cells (cap - (m + l))) E) := ⟨_, rfl⟩
  refine ⟨some ⟨w.heap.size, 0, none⟩, cap, w', ?_, ?_⟩
  ·have hmax' : ¬ (9223372036854775807 < ((m : Int) + (l : Int)) ∧ by_ = 0) := by rintro ⟨_, h⟩; omega
   have hnext' : ¬ (281474976710656 < Builtin.nextslicecap (m + l) c * by_) := by simpa using hnext
   rcases hxi with ⟨XE, rfl⟩ | rfl <;> simp [Builtin.append_, run_underlying' hu, run_underlying' hxu, run_sizeOf' hi, hlen, hfit, run_typeInfo' hi1, hi4, hmax', hnext', hforced, hcap, hfs', hfx', run_zeroValue' hi, newRow, hw']
   all_goals (have e : (cs ++ new).toArray = cs.toArray ++ new.toArray := by simp)
   all_goals rw [e, Array.append_assoc]
  ·subst hw'
   refine hI.stepAt hO rfl rfl rfl (by simp) (fun q hq _ => ?_) ⟨rfl, cs.toArray ++ new.toArray ++ Builtin.zeroCells z.cells (cap - (m + l)), ?_, ?_, ?_, ?_⟩ ?_ (by simp [rowI])
   ·show (w.heap.push _)[q]? = _
    rw [Array.getElem?_push, if_neg (by omega)]
   ·show (w.heap.push _)[w.heap.size]? = _
    simp
   ·simp only [List.length_append, hl, hnl, ← Nat.add_mul]; exact Nat.mul_le_mul_right s hle
   ·simp only [Array.size_append, List.size_toArray, zeros_any, hz, hl, hnl, ← Nat.add_mul, Nat.zero_add]
    exact Nat.mul_le_mul_right s (by omega)
   ·intro q hq
    simp only [Nat.zero_add]
    rw [Array.getElem?_append_left (by simp at hq ⊢; exact hq)]
    simp
   ·intro q hq
    simp [rowI] at hq
    subst hq
    exact .inr ⟨Nat.le_refl _, by simp⟩
theorem l_append {T U E XE : TypeId} {b : Option Addr} {m c l s by_ : Nat} {x y : Operand} {xv z : Value} {cs new : List Value} (j : Nat)
  (hu : P.underlying T = some (.slice E)) (hxu : P.underlying U = some (.slice XE)) (hi : Inf P E z s by_) (hz : z.cells.size = s)
  (hx : ev ρ x = .slice b m c) (hy : ev ρ y = xv) (hO : O[j]? = some (rowI b c E s cs)) (hl : cs.length = m * s) (hs : 0 < s)
  (hsrc : Src P base O s l xv new) (hone : (new.all oneB) = true) (hsz : (m + l) * by_ ≤ 70368744177664) (hby : by_ ≤ 1000000) (hsz' : 0 < by_)
  (h : ∀ b' c', K (upd ρ d (.slice b' (m + l) c')) (O.set j (rowI b' c' E s (cs ++ new)))) (hn : Nat.blt d n = true := by rfl) :
  LT P r base n ⟨some d, .call ⟨.builtin .append, #[x, y], #[T, U]⟩, t, p, af, g⟩ ρ O K :=
 LT.of_run hn fun w M hI => by
  obtain ⟨b', c', w', hr, hI'⟩ := run_append (ty := t) hu hxu (.inl ⟨_, rfl⟩) hi hz (at_app hO) hl hs hsrc.app hone hsz hby hsz' hI
  rw [set_app hO] at hI'
  refine ⟨_, w', _, ?_, hI', h b' c'⟩
  simp [execOp, resolve, hx, hy, invoke, builtin, hr]
def Enters (P : Program) (f : FuncId) (fn : Func) : Prop := P.funcs[f]? = some fn ∧ (fn.name == "runtime.NumGoroutine") = false ∧ fn.body.isSome = true
def CallT (P : Program) (base : World) (f : FuncId) (args : List Value) (O : List Item) (R : Value → List Item → Prop) : Prop :=
 ∀ w M, Inv base (O ++ M) w → Calls P f args.toArray w fun e w' => ∃ v O', e = .returned v ∧ Inv base (O' ++ M) w' ∧ R v O'
theorem CallT.mono {f : FuncId} {args : List Value} {R R' : Value → List Item → Prop} (h : CallT P base f args O R) (hr : ∀ v O', R v O' → R' v O') : CallT P base f args O R' :=
 fun w M hI => (h w M hI).mono fun _ _ ⟨v, O', h1, h2, h3⟩ => ⟨v, O', h1, h2, hr v O' h3⟩
def PureT (P : Program) (f : FuncId) (args : List Value) (w : World) (R : Value → List Item → Prop) : Prop := CallT P w f args [] R
theorem CallT.op {f : FuncId} {args : List Value} {R : Value → List Item → Prop} (h : ∀ w, Inv base O w → PureT P f args w R) : CallT P base f args O (fun v O' => ∃ N, O' = N ++ O ∧ R v N) :=
 fun w M hI => (h w hI.left w [] (Inv.refl w)).mono fun _ _ ⟨v, N, h1, h2, h3⟩ => ⟨v, N ++ O, h1, by
  have := hI.call h2
  simpa [List.append_assoc] using this, N, rfl, h3⟩
theorem CallT.under {f : FuncId} {args : List Value} {A B : List Item} {R : Value → List Item → Prop} (h : CallT P base f args A R) (hs : Sub (A ++ B) O) : CallT P base f args O (fun v O' => ∃ A', O' = A' ++ B ∧ R v A') :=
 fun w M hI => (h w (B ++ M) (by have := hI.subp hs.app; rwa [List.append_assoc] at this)).mono fun _ _ ⟨v, A', h1, h2, h3⟩ => ⟨v, A' ++ B, h1, by rwa [List.append_assoc], A', rfl, h3⟩
def NextT (P : Program) (base : World) (M : List Item) (R : Value → List Item → Prop) : Result Next → Prop
 | .ok (.enter f args) w => Calls P f args w fun e w' => ∃ v O', e = .returned v ∧ Inv base (O' ++ M) w' ∧ R v O'
 | .ok (.round l f tmps assign body) w => RoundIn Fence.wide 0 P l f tmps assign body w fun e w' => ∃ v O', e = .returned v ∧ Inv base (O' ++ M) w' ∧ R v O'
 | _ => False
def callSem (fv : Value) (args : Array Value) : Sem Next := do
 let d ← Deferred.ofValue fv args
 invoke d.target d.args
def CallV (P : Program) (base : World) (fv : Value) (args : List Value) (O : List Item) (R : Value → List Item → Prop) : Prop :=
 ∀ w M, Inv base (O ++ M) w → NextT P base M R ((callSem fv args.toArray).run P w)
theorem NextT.mono {M : List Item} {R R' : Value → List Item → Prop} {x : Result Next} (h : NextT P base M R x) (hr : ∀ v O', R v O' → R' v O') : NextT P base M R' x := by
 cases x with
 | halt e w => exact h
 | ok y w =>
  cases y <;> first
   | exact h
   | exact Calls.mono h fun _ _ ⟨v, O', h1, h2, h3⟩ => ⟨v, O', h1, h2, hr v O' h3⟩
   | exact RoundIn.mono h fun _ _ ⟨v, O', h1, h2, h3⟩ => ⟨v, O', h1, h2, hr v O' h3⟩
theorem CallV.mono {fv : Value} {args : List Value} {R R' : Value → List Item → Prop} (h : CallV P base fv args O R) (hr : ∀ v O', R v O' → R' v O') : CallV P base fv args O R' :=
 fun w M hI => (h w M hI).mono hr
theorem CallV.under {fv : Value} {args : List Value} {A B : List Item} {R : Value → List Item → Prop} (h : CallV P base fv args A R) (hs : Sub (A ++ B) O) : CallV P base fv args O (fun v O' => ∃ A', O' = A' ++ B ∧ R v A') := fun w M hI => by
 have h1 := h w (B ++ M) (by have := hI.subp hs.app; rwa [List.append_assoc] at this)
 revert h1
 cases (callSem fv args.toArray).run P w with
 | halt e w => exact id
 | ok y w =>
  cases y <;> first
   | exact id
   | exact fun h => Calls.mono h fun _ _ ⟨v, A', h1, h2, h3⟩ => ⟨v, A' ++ B, h1, by rwa [List.append_assoc], A', rfl, h3⟩
   | exact fun h => RoundIn.mono h fun _ _ ⟨v, A', h1, h2, h3⟩ => ⟨v, A' ++ B, h1, by rwa [List.append_assoc], A', rfl, h3⟩
theorem CallV.of_fn {f : FuncId} {fn : Func} {first args caps : List Value} {R : Value → List Item → Prop} (he : Enters P f fn) (h : CallT P base f (first ++ args ++ caps) O R) : CallV P base (.func (.func f) first.toArray caps.toArray) args O R := fun w M hI => by
 have hname : ¬ fn.name = "runtime.NumGoroutine" := by simpa using he.2.1
 obtain ⟨bd, hbd⟩ := Option.isSome_iff_exists.1 he.2.2
 have hr : (callSem (.func (.func f) first.toArray caps.toArray) args.toArray).run P w = .ok (.enter f (first ++ args ++ caps).toArray) w := by
  have e : (first ++ args ++ caps).toArray = first.toArray ++ args.toArray ++ caps.toArray := by simp
  rw [e]
  simp [callSem, Deferred.ofValue, invoke, callFunc, he.1, hname, hbd]
 rw [hr]
 exact h w M hI
theorem run_callOp {x : Operand} {args : List Operand} {ats : Array TypeId} {dst : Option Nat} {w : World} : (execOp (ev ρ) ⟨dst, .call ⟨.value x, args.toArray, ats⟩, t, p, af, g⟩).run P w = (callSem (ev ρ x) (evs ρ args).toArray).run P w := by
 have hargs : (args.toArray.map (ev ρ)) = (evs ρ args).toArray := by simp [evs_eq]
 simp only [execOp, resolve, callSem, hargs, Sem.run_bind]
theorem CallsIn_Fr {r : Option Nat} {f : FuncId} {args : Array Value} {w : World} {R : Ending → World → Prop} (h : Calls P f args w R) : CallsIn (Fr r) (0 - 1) P f args w R := callsIn_wide.2 h
theorem l_callG {x : Operand} {args : List Operand} {ats : Array TypeId} {fv : Value} {vs : List Value} {R : Value → List Item → Prop} (hc : CallV P base fv vs O R) (hx : ev ρ x = fv) (ha : evs ρ args = vs)
  (h : ∀ v O', R v O' → K (upd ρ d v) O') (hn : Nat.blt d n = true := by rfl) : LT P r base n ⟨some d, .call ⟨.value x, args.toArray, ats⟩, t, p, af, g⟩ ρ O K := by
 subst hx; subst ha
 intro a w M ds ha hi next Qx hnext
 have h1 := hc w M hi
 rw [← run_callOp (t := t) (p := p) (af := af) (g := g) (ats := ats) (dst := some d)] at h1
 rw [← ha.eval] at h1
 revert h1
 generalize hr : (execOp a.eval ⟨some d, .call ⟨.value x, args.toArray, ats⟩, t, p, af, g⟩).run P w = y
 intro h1
 refine wpIn_Fr (by intro c e; cases e) ?_
 rw [hr]
 cases y with
 | halt e w => exact h1.elim
 | ok y w1 =>
  cases y with
  | enter f args' =>
   rw [Oper.uponIn_enter]
   refine ⟨fun e => by simp [Fr, Fence.wide] at e, CallsIn_Fr (Calls.mono h1 ?_)⟩
   rintro e w' ⟨v, O', rfl, hI', hR⟩
   exact hnext _ _ _ _ (ha.put hn v) hI' (h v O' hR)
  | round l f tmps assign body =>
   rw [Oper.uponIn_round]
   refine ⟨fun e => by simp [Fr, Fence.wide] at e, RoundIn.mono h1 ?_⟩
   rintro e w' ⟨v, O', rfl, hI', hR⟩
   exact hnext _ _ _ _ (ha.put hn v) hI' (h v O' hR)
  | _ => exact h1.elim
theorem l_call {f : FuncId} {fn : Func} {args : List Operand} {ats : Array TypeId} {vs : List Value} {R : Value → List Item → Prop} (he : Enters P f fn)
  (hc : CallT P base f vs O R) (ha : evs ρ args = vs) (h : ∀ v O', R v O' → K (upd ρ d v) O') (hn : Nat.blt d n = true := by rfl) : LT P r base n ⟨some d, .call ⟨.value (.func f), args.toArray, ats⟩, t, p, af, g⟩ ρ O K :=
 l_callG (CallV.of_fn (first := []) (caps := []) he (by simpa using hc)) rfl ha h hn
def entry (args : List Value) : Env := fun t => args.getD t undef
structure Res (P : Program) (base : World) (fn : Func) (ρ : Env) (O : List Item) (R : Value → List Item → Prop) : Prop where
 ex : ∃ v O', Sub O' O ∧ R v O' ∧ ∀ w tmps, Inv base O w → (∀ t, tmps.getD t undef = ρ t) → (results fn tmps).run P w = .ok v w
def bodyQ (P : Program) (base : World) (fn : Func) (R : Value → List Item → Prop) : Post
 | .normal, ρ, O => Res P base fn ρ O R
 | .ret, ρ, O => Res P base fn ρ O R
 | _, _, _ => False
theorem leaves_marks {fn : Func} {tmps : Array Value} {M O' : List Item} {Rx : Ending → World → Prop} (h : ∀ w, Inv base (O' ++ M) w → ∃ v, (results fn tmps).run P w = .ok v w ∧ Rx (.returned v) w) :
  ∀ (D : List Nat) (w : World), Inv base (O' ++ (mI D ++ M)) w → LeavesInM Fence.wide 0 P fn tmps Rx (mD D) .returning w
 | [], w, hI => h w hI
 | b :: D, w, hI => by
  have hI' : Inv base (O' ++ markI b :: (mI D ++ M)) w := hI
  have hb : w.heap[b]? = some (.deferred (some [])) := hI'.holds (markI b) (by simp)
  have hlt := (Array.getElem?_eq_some_iff.1 hb).1
  refine ⟨by simp, .inl ⟨b, w.putObj b (.deferred none), rfl, run_takeDeferred hb, leaves_marks h D _ ?_⟩⟩
  have := Inv.step (N := []) (w' := w.putObj b (.deferred none)) hI' rfl rfl rfl (by simp) (fun k _ hk => World.putObj_heap_other (fun e => hk (by simp [markI, objI, e]))) (by simp) (by simp) (by simp)
  simpa using this
theorem CallT.enter {f : FuncId} {fn : Func} {c : Code} {args : List Value} {R : Value → List Item → Prop} (hf : P.funcs[f]? = some fn) (hb : fn.body = some c) (hn : fn.ntmps = n) (hl : Nat.ble args.length n = true)
  (h : T P none base n c (bodyQ P base fn R) (entry args) O) : CallT P base f args O R := by
 have hl := Nat.le_of_ble_eq_true hl
 intro w M hI
 rw [← callsIn_wide (n := 0)]
 refine callsIn_of_wp_marks hf hb trivial (wpIn_mono (h _ w M [] trivial ⟨?_, ?_, rfl⟩ hI) ?_)
 ·intro t
  show (args.toArray ++ Array.replicate (fn.ntmps - args.toArray.size) undef).getD t undef = args.getD t undef
  rw [Array.getD_eq_getD_getElem?, List.getD_eq_getElem?_getD]
  by_cases h : t < args.length
  ·rw [Array.getElem?_append_left (by simpa using h)]; simp
  ·rw [Array.getElem?_append_right (by simpa using h)]
   have : args[t]? = none := by simp; omega
   rw [this, Array.getElem?_replicate]
   split <;> rfl
 ·simp; omega
 ·have key : ∀ (a' : Act) (w' : World) (ρ' : Env) (O' : List Item) (D : List Nat), Ag n (mD D) a' ρ' → Inv base (O' ++ (mI D ++ M)) w' → Res P base fn ρ' O' R →
    LeavesInM Fence.wide 0 P fn a'.tmps (fun e w'' => ∃ v O', e = .returned v ∧ Inv base (O' ++ M) w'' ∧ R v O') a'.defers .returning w' := by
   intro a' w' ρ' O' D h1 h2 h3
   obtain ⟨v, O'', hsub, hR, hr⟩ := h3.ex
   rw [h1.defers]
   exact leaves_marks (fun w hI => ⟨v, hr w a'.tmps hI.left h1.tmp, v, O'', rfl, hI.subp hsub.app, hR⟩) D w' h2
  rintro e a' w' ⟨ρ', O', D, h1, h2, h3⟩
  cases e with
  | normal => exact key a' w' ρ' O' D h1 h2 h3
  | ret => exact key a' w' ρ' O' D h1 h2 h3
  | _ => exact h3.elim
def lp (q : Loop) (j : Option Code) : Obj := .loop { q with state := if j.isNone then .ready else .done, pending := j }
structure LoopOk (q : Loop) (n : Nat) (ρ : Env) (ps : Array Nat) (assign body : Code) : Prop where
 params : q.params = ps
 assign : q.assign = assign
 body : q.body = body
 tmp : ∀ t, q.tmps.getD t undef = ρ t
 size : q.tmps.size = n
def jumpQ (Q : Post) (ρ : Env) (O : List Item) : Option Code → Prop
 | none => Q .normal ρ O
 | some .ret => Q .ret ρ O
 | some (.exit id) => Q (.exit id) ρ O
 | _ => False
theorem T.rangeFunc {gx : Operand} {ps : Array Nat} {assign body : Code} {Q : Post} {f : FuncId} {fn : Func} {first caps : List Value} (hg : ev ρ gx = .func (.func f) first.toArray caps.toArray) (he : Enters P f fn)
  (h : ∀ (l : Nat) (q : Loop), LoopOk q n ρ ps assign body → CallT P base f (first ++ [.func (.yield l) #[] #[]] ++ caps) (objI l (lp q none) :: O) (fun _ O' => ∃ j O'', O' = objI l (lp q j) :: O'' ∧ jumpQ Q ρ O'' j)) :
  T P r base n (.rangeFunc gx ps assign body) Q ρ O := by
 have hname : ¬ fn.name = "runtime.NumGoroutine" := by simpa using he.2.1
 obtain ⟨bd, hbd⟩ := Option.isSome_iff_exists.1 he.2.2
 intro a w M D hM ha hI
 refine wpIn_rangeFunc fun fnid _ => ?_
 have hev : a.eval gx = .func (.func f) first.toArray caps.toArray := by rw [ha.eval]; exact hg
 have hcall : ∀ (l : Nat) (w1 : World), (resolve a.eval (rangeCall gx l) 0).run P w1 = .ok ⟨.fn (.func f) caps.toArray, (first ++ [Value.func (.yield l) #[] #[]]).toArray⟩ w1 := fun l w1 => by
  have e : (first ++ [Value.func (.yield l) #[] #[]]).toArray = first.toArray ++ #[.func (.yield l) #[] #[]] := by simp
  rw [e]
  have hc : a.eval (.const (.func (.yield l) #[] #[])) = .func (.yield l) #[] #[] := rfl
  simp [resolve, hev, hc, Deferred.ofValue]
 have hinv : ∀ (l : Nat) (w1 : World), (invoke (.fn (.func f) caps.toArray) (first ++ [Value.func (.yield l) #[] #[]]).toArray).run P w1 = .ok (.enter f (first ++ [Value.func (.yield l) #[] #[]] ++ caps).toArray) w1 := fun l w1 => by
  have e : (first ++ [Value.func (.yield l) #[] #[]] ++ caps).toArray = (first ++ [Value.func (.yield l) #[] #[]]).toArray ++ caps.toArray := by simp
  rw [e]
  simp [invoke, callFunc, he.1, hname, hbd]
 have post : ∀ (l : Nat) (q : Loop) (mark : List Deferred) (D' : List Nat), mark ++ mD D = mD D' → ∀ e w', (∃ v O', e = Ending.returned v ∧ Inv base (O' ++ (mI D' ++ M)) w' ∧ ∃ j O'', O' = objI l (lp q j) :: O'' ∧ jumpQ Q ρ O'' j) →
   rangePost (Fr r) 0 P l (lift base n M Q) { a with defers := mark ++ a.defers } e w' := by
  rintro l q mark D' hmark e w' ⟨v, O', rfl, hI', j, O'', rfl, hj⟩
  have hl : w'.heap[l]? = some (lp q j) := hI'.holds (objI l (lp q j)) (by simp)
  have hlt := (Array.getElem?_eq_some_iff.1 hl).1
  refine ⟨j, _, run_endLoop (P := P) hl (by simp; split <;> simp), ?_⟩
  have hI2 : Inv base (O'' ++ (mI D' ++ M)) (w'.putObj l (.loop { ({ q with state := if j.isNone then .ready else .done, pending := j } : Loop) with state := .exhausted })) := by
   have := Inv.step (A := []) (N := []) (w' := w'.putObj l (.loop { ({ q with state := if j.isNone then .ready else .done, pending := j } : Loop) with state := .exhausted })) (B := O'' ++ (mI D' ++ M)) (it := objI l (lp q j)) hI'
    rfl rfl rfl (by simp) (fun k _ hk => World.putObj_heap_other (fun e => hk (by simp [objI, e]))) (by simp) (by simp) (by simp)
   simpa using this
  have hag : Ag n (mD D') ({ a with defers := mark ++ a.defers } : Act) ρ := ⟨ha.tmp, ha.size, by simp [ha.defers]; exact hmark⟩
  cases j with
  | none => exact ⟨ρ, O'', D', hag, hI2, hj⟩
  | some c =>
   cases c with
   | ret => exact wpIn_ret ⟨ρ, O'', D', hag, hI2, hj⟩
   | exit id => exact wpIn_exit ⟨ρ, O'', D', hag, hI2, hj⟩
   | _ => exact hj.elim
 cases r with
 | none =>
  have hI1 : Inv base (markI w.heap.size :: (O ++ (mI D ++ M))) (w.alloc (.deferred (some []))) := hI.alloc _
  have hI2 := hI1.alloc (.loop { state := .ready, pending := none, fn := fnid, tmps := a.tmps, params := ps, assign, body, defers := w.heap.size })
  have hI3 : Inv base ((objI (w.heap.size + 1) (lp { state := .ready, pending := none, fn := fnid, tmps := a.tmps, params := ps, assign, body, defers := w.heap.size } none) :: O) ++ (mI (w.heap.size :: D) ++ M))
    ((w.alloc (.deferred (some []))).alloc (.loop { state := .ready, pending := none, fn := fnid, tmps := a.tmps, params := ps, assign, body, defers := w.heap.size })) := by
   refine hI2.perm ?_
   have e : (w.alloc (.deferred (some []))).heap.size = w.heap.size + 1 := by simp
   rw [e]
   exact List.Perm.cons _ List.perm_middle
  refine ⟨_, _, _, _, _, f, _, _, run_enterLoop_outer (P := P) (w := w) fnid a.tmps ps assign body, hcall _ _, fun _ _ => trivial, hinv _ _, fun e => by simp [Fr, Fence.wide] at e, CallsIn_Fr ?_⟩
  refine Calls.mono (h (w.heap.size + 1) { state := .ready, pending := none, fn := fnid, tmps := a.tmps, params := ps, assign, body, defers := w.heap.size } ⟨rfl, rfl, rfl, ha.tmp, ha.size⟩ _ _ hI3) ?_
  exact post _ _ _ (w.heap.size :: D) rfl
 | some l0 =>
  obtain ⟨it, hit, hloop⟩ := hM
  obtain ⟨rc, hrc⟩ := hloop w (hI.holds it (by simp [hit]))
  have hI2 := hI.alloc (.loop { state := .ready, pending := none, fn := fnid, tmps := a.tmps, params := ps, assign, body, defers := rc.defers })
  refine ⟨_, _, _, _, _, f, _, _, run_enterLoop_inner (P := P) (w := w) hrc fnid a.tmps ps assign body, hcall _ _, fun _ _ => trivial, hinv _ _, fun e => by simp [Fr, Fence.wide] at e, CallsIn_Fr ?_⟩
  refine Calls.mono (h w.heap.size { state := .ready, pending := none, fn := fnid, tmps := a.tmps, params := ps, assign, body, defers := rc.defers } ⟨rfl, rfl, rfl, ha.tmp, ha.size⟩ _ (mI D ++ M) hI2) ?_
  exact post _ _ _ D rfl
def bindP : List Nat → List Value → Env → Env
 | t :: ts, v :: vs, ρ => bindP ts vs (upd ρ t v)
 | _, _, ρ => ρ
theorem bindP_ag : ∀ (ts : List Nat) (vs : List Value) (tmps : Array Value) (ρ : Env), (ts.all fun t => Nat.blt t n) = true → tmps.size = n → (∀ t, tmps.getD t undef = ρ t) →
  (((ts.zip vs).foldl (fun tmps q => tmps.setIfInBounds q.1 q.2) tmps).size = n ∧ ∀ t, ((ts.zip vs).foldl (fun tmps q => tmps.setIfInBounds q.1 q.2) tmps).getD t undef = bindP ts vs ρ t)
 | [], vs, tmps, ρ, _, hs, ht => ⟨hs, ht⟩
 | t :: ts, [], tmps, ρ, _, hs, ht => ⟨hs, ht⟩
 | t :: ts, v :: vs, tmps, ρ, hb, hs, ht => by
  simp only [List.all_cons, Bool.and_eq_true] at hb
  have h1 := Ag.put (a := { tmps := tmps, defers := [] }) (ds := []) ⟨ht, hs, rfl⟩ hb.1 v
  exact bindP_ag ts vs _ (upd ρ t v) hb.2 h1.size h1.tmp
def roundQ (l : Nat) (q : Loop) (R : Value → List Item → Prop) : Post
 | .normal, _, O => R (.bool true) (objI l (lp q none) :: O)
 | .ret, _, O => R (.bool false) (objI l (lp q (some .ret)) :: O)
 | .exit id, _, O => R (.bool false) (objI l (lp q (some (.exit id))) :: O)
 | _, _, _ => False
theorem Inv.loopStep {O M : List Item} {w : World} {l : Nat} {o o' : Obj} (hI : Inv base (objI l o :: O ++ M) w) : Inv base (objI l o' :: O ++ M) (w.putObj l o') := by
 have hl : w.heap[l]? = some o := hI.holds (objI l o) (by simp)
 have hlt := (Array.getElem?_eq_some_iff.1 hl).1
 have := Inv.step (A := []) (N := [objI l o']) (w' := w.putObj l o') (B := O ++ M) (it := objI l o) hI rfl rfl rfl (by simp) (fun k _ hk => World.putObj_heap_other (fun e => hk (by simp [objI, e])))
  (by intro x hx; simp at hx; subst hx; exact World.putObj_heap_same hlt) (by intro x hx b hb; simp at hx; subst hx; exact .inl hb) (by simp [objI])
 simpa using this
theorem CallV.yield {l : Nat} {q : Loop} {ps : Array Nat} {assign body : Code} {args : List Value} {R : Value → List Item → Prop} (hq : LoopOk q n ρ ps assign body) (hl : args.length = ps.size) (hps : (ps.toList.all fun t => Nat.blt t n) = true)
  (h : T P (some l) base n assign (thn (fun ρ O => T P (some l) base n body (roundQ l q R) ρ O) (fun _ _ _ => False)) (bindP ps.toList args ρ) O) :
  CallV P base (.func (.yield l) #[] #[]) args (objI l (lp q none) :: O) R := by
 obtain ⟨rfl, rfl, rfl, ht, hs⟩ := hq
 intro w M hI
 have hb : w.heap[l]? = some (.loop { q with state := .ready, pending := none }) := hI.holds (objI l (lp q none)) (by simp)
 have hrun : (callSem (.func (.yield l) #[] #[]) args.toArray).run P w = .ok (.round l q.fn ((q.params.toList.zip args).foldl (fun tmps p => tmps.setIfInBounds p.1 p.2) q.tmps) q.assign q.body) w := by
  have h1 := run_yield (P := P) (args := args.toArray) hb (by simpa using hl)
  simp only [callSem, Deferred.ofValue, invoke, Sem.run_bind, Sem.run_pure, Result.andThen_ok]
  have e : (#[] : Array Value) ++ args.toArray = args.toArray := by simp
  rw [e, h1]
  congr 2
  rw [← Array.foldl_toList]
  congr 1
  simp
 rw [hrun]
 obtain ⟨hsz, htm⟩ := bindP_ag q.params.toList args q.tmps ρ hps hs ht
 refine roundIn_of_wpIn trivial ?_
 have hI1 : Inv base (O ++ (mI [] ++ (objI l (lp q none) :: M))) w := hI.perm List.perm_middle
 refine wpIn_mono (h { tmps := _, defers := [] } w (objI l (lp q none) :: M) [] ⟨objI l (lp q none), by simp, fun w hw => ⟨_, hw⟩⟩ ⟨htm, hsz, rfl⟩ hI1) ?_
 rintro e a1 w1 ⟨ρ1, O1, D1, h1, h2, h3⟩
 cases e with
 | normal =>
  have h2' : Inv base (objI l (lp q none) :: (O1 ++ mI D1) ++ M) w1 := h2.perm (by
   have : (O1 ++ (mI D1 ++ objI l (lp q none) :: M)) = ((O1 ++ mI D1) ++ objI l (lp q none) :: M) := by simp
   rw [this]
   exact List.perm_middle.symm)
  have hb1 : w1.heap[l]? = some (.loop { q with state := .ready, pending := none }) := h2'.holds (objI l (lp q none)) (by simp)
  refine ⟨_, run_beginRound (P := P) hb1 rfl, ?_⟩
  have hI3 := h2'.loopStep (o' := .loop { ({ q with state := .ready, pending := none } : Loop) with state := .busy })
  have hI4 : Inv base (O1 ++ (mI D1 ++ (objI l (.loop { ({ q with state := .ready, pending := none } : Loop) with state := .busy }) :: M))) (w1.putObj l (.loop { ({ q with state := .ready, pending := none } : Loop) with state := .busy })) := hI3.perm (by
   have : (O1 ++ (mI D1 ++ objI l (.loop { ({ q with state := .ready, pending := none } : Loop) with state := .busy }) :: M)) = ((O1 ++ mI D1) ++ objI l (.loop { ({ q with state := .ready, pending := none } : Loop) with state := .busy }) :: M) := by simp
   rw [this]
   exact List.perm_middle)
  refine wpIn_mono (h3 a1 _ _ D1 ⟨objI l (.loop { ({ q with state := .ready, pending := none } : Loop) with state := .busy }), by simp, fun w hw => ⟨_, hw⟩⟩ h1 hI4) ?_
  rintro e a2 w2 ⟨ρ2, O2, D2, k1, k2, k3⟩
  have k2' : Inv base (objI l (.loop { ({ q with state := .ready, pending := none } : Loop) with state := .busy }) :: (O2 ++ mI D2) ++ M) w2 := k2.perm (by
   have : (O2 ++ (mI D2 ++ objI l (.loop { ({ q with state := .ready, pending := none } : Loop) with state := .busy }) :: M)) = ((O2 ++ mI D2) ++ objI l (.loop { ({ q with state := .ready, pending := none } : Loop) with state := .busy }) :: M) := by simp
   rw [this]
   exact List.perm_middle.symm)
  have hb2 : w2.heap[l]? = some (.loop { ({ q with state := .ready, pending := none } : Loop) with state := .busy }) := k2'.holds (objI l (.loop { ({ q with state := .ready, pending := none } : Loop) with state := .busy })) (by simp)
  have fin : ∀ j : Option Code, Inv base (objI l (lp q j) :: O2 ++ M) (w2.putObj l (lp q j)) := fun j => by
   have := k2'.loopStep (o' := lp q j)
   refine this.sub ?_
   simp only [List.cons_append, List.append_assoc]
   exact List.Sublist.cons_cons _ (List.Sublist.append (List.Sublist.refl _) (List.sublist_append_right _ _))
  cases e with
  | normal => exact ⟨_, _, run_endRound (P := P) none hb2, _, _, rfl, fin none, k3⟩
  | ret => exact ⟨_, _, run_endRound (P := P) (some .ret) hb2, _, _, rfl, fin (some .ret), k3⟩
  | exit id => exact ⟨_, _, run_endRound (P := P) (some (.exit id)) hb2, _, _, rfl, fin (some (.exit id)), k3⟩
  | _ => exact k3.elim
 | _ => exact h3.elim
theorem Res.zero {fn : Func} {R : Value → List Item → Prop} (hr : fn.results = #[]) (h : R (.tuple #[]) O) : Res P base fn ρ O R :=
 ⟨⟨_, O, Sub.of (List.Sublist.refl _), h, fun w tmps _ _ => results_none hr tmps P w⟩⟩
theorem Res.one {fn : Func} {R : Value → List Item → Prop} {a : Nat} (v : Value) (hr : fn.results = #[.tmp a]) (hv : ρ a = v) (h : R v O) : Res P base fn ρ O R :=
 ⟨⟨_, O, Sub.of (List.Sublist.refl _), h, fun w tmps _ ht => by rw [results_tmp hr tmps P w, ht, hv]⟩⟩
theorem Res.two {fn : Func} {R : Value → List Item → Prop} {a b : Nat} (v u : Value) (hr : fn.results = #[.tmp a, .tmp b]) (hv : ρ a = v) (hu : ρ b = u) (h : R (.tuple #[v, u]) O) : Res P base fn ρ O R :=
 ⟨⟨_, O, Sub.of (List.Sublist.refl _), h, fun w tmps _ ht => by rw [results_tmp2 hr tmps P w, ht, ht, hv, hu]⟩⟩
theorem Res.three {fn : Func} {R : Value → List Item → Prop} {a b c : Nat} (v u x : Value) (hr : fn.results = #[.tmp a, .tmp b, .tmp c]) (hv : ρ a = v) (hu : ρ b = u) (hx : ρ c = x) (h : R (.tuple #[v, u, x]) O) : Res P base fn ρ O R :=
 ⟨⟨_, O, Sub.of (List.Sublist.refl _), h, fun w tmps _ ht => by rw [← hv, ← hu, ← hx, ← ht a, ← ht b, ← ht c]; simp [results, hr]⟩⟩
theorem Res.drop {fn : Func} {R : Value → List Item → Prop} (h : Res P base fn ρ O (fun v O1 => ∃ O2, Sub O2 O1 ∧ R v O2)) : Res P base fn ρ O R := by
 obtain ⟨v, O1, hs, ⟨O2, hs2, hR⟩, hr⟩ := h.ex
 refine ⟨⟨v, O2, ?_, hR, hr⟩⟩
 obtain ⟨l2, p2, s2⟩ := hs2
 obtain ⟨l1, p1, s1⟩ := hs
 obtain ⟨l3, p3, s3⟩ := List.exists_perm_sublist s2 p1
 exact ⟨l3, p2.trans p3.symm, s3.trans s1⟩
theorem run_loadBox {T E : TypeId} {d : TypeDesc} {z : Value} {s by_ b : Nat} {cs : List Value} {fr : Nat × Nat} {w : World} (hu : P.underlying T = some d) (ha : aggB d = true) (hi : Inf P T z s by_) (hl : cs.length = s) (hw : w.heap[b]? = some (.cells cs.toArray E fr)) :
  (loadVar T ⟨b, 0, none⟩).run P w = .ok (.agg cs.toArray) w := by
 have h := loadCells_run (P := P) (w := w) (a := ⟨b, 0, none⟩) cs 0 #[] (fun j hj => by
  rw [add_off]; unfold World.cell?; simp [hw])
 simp [loadVar, run_isAgg' hu, ha, run_sizeOf' hi, loadCells, ← hl, h]
theorem Res.cell1 {fn : Func} {R : Value → List Item → Prop} {a i : Nat} {T E : TypeId} {d : TypeDesc} {z : Value} {s by_ b : Nat} {cs : List Value} {fr : Nat × Nat} (hr : fn.results = #[.cell a T]) (hu : P.underlying T = some d) (ha : aggB d = true) (hi : Inf P T z s by_) (hp : ρ a = .pointer (some ⟨b, 0, none⟩)) (hO : O[i]? = some (objI b (.cells cs.toArray E fr))) (hl : cs.length = s)
  (h : R (.agg cs.toArray) O) : Res P base fn ρ O R :=
 ⟨⟨_, O, Sub.of (List.Sublist.refl _), h, fun w tmps hI ht => by
  have := run_loadBox (P := P) hu ha hi hl (hI.objAt hO)
  have ht' := ht a
  simp only [Array.getD_eq_getD_getElem?] at ht'
  simp [results, hr, ht', hp, asAddr, this]⟩⟩
theorem Res.cell1b {fn : Func} {R : Value → List Item → Prop} {a i c : Nat} (u : Value) {T E : TypeId} {d : TypeDesc} {z : Value} {s by_ b : Nat} {cs : List Value} {fr : Nat × Nat} (hr : fn.results = #[.cell a T, .tmp c]) (hu : P.underlying T = some d) (ha : aggB d = true) (hi : Inf P T z s by_) (hp : ρ a = .pointer (some ⟨b, 0, none⟩)) (hO : O[i]? = some (objI b (.cells cs.toArray E fr))) (hl : cs.length = s) (hc' : ρ c = u)
  (h : R (.tuple #[.agg cs.toArray, u]) O) : Res P base fn ρ O R :=
 ⟨⟨_, O, Sub.of (List.Sublist.refl _), h, fun w tmps hI ht => by
  have := run_loadBox (P := P) hu ha hi hl (hI.objAt hO)
  have ht' := ht a
  have hc := ht c
  simp only [Array.getD_eq_getD_getElem?] at ht' hc
  simp [results, hr, ht', hc, hc', hp, asAddr, this]⟩⟩
end
end Go.Lx


namespace Go.Lx
open Go.RowKit
def Heads : List (Nat × Value) → Env → Prop
 | [], _ => True
 | q :: L, ρ => ρ q.1 = q.2 ∧ Heads L ρ
def heads (L : List (Nat × Value)) (ρ : Env) : Env := L.foldr (fun q r => upd r q.1 q.2) ρ
theorem Heads.of {ρ : Env} : ∀ {L : List (Nat × Value)}, L.map (fun q => ρ q.1) = L.map (·.2) → Heads L ρ
 | [], _ => trivial
 | _ :: _, h => ⟨(List.cons.inj h).1, Heads.of (List.cons.inj h).2⟩
theorem heads_self {ρ : Env} : ∀ {L : List (Nat × Value)}, Heads L ρ → heads L ρ = ρ
 | [], _ => rfl
 | q :: L, h => by
  have ih := heads_self h.2
  show upd (heads L ρ) q.1 q.2 = ρ
  rw [ih]
  funext t
  unfold upd
  cases e : Nat.beq t q.1 with
  | false => rfl
  | true => rw [Nat.eq_of_beq_eq_true e]; exact h.1.symm
theorem Heads.elim {L : List (Nat × Value)} {ρ : Env} (h : Heads L ρ) : ∃ ρ0, ρ = heads L ρ0 := ⟨ρ, (heads_self h).symm⟩
abbrev ints (xs : List Int) : List Value := xs.map (Value.int .i64)
abbrev nats (xs : List Nat) : List Value := xs.map fun x : Nat => Value.int .i64 (x : Int)
abbrev bools (xs : List Bool) : List Value := xs.map Value.bool
abbrev byts (xs : List Nat) : List Value := xs.map fun x : Nat => Value.int .u8 (x : Int)
theorem ints_get {xs : List Int} {k : Nat} (h : k < xs.length := by first | assumption | omega | (simp; omega) | simp_all) : (ints xs)[k]? = some (.int .i64 xs[k]) := by simp [h]
theorem nats_get {xs : List Nat} {k : Nat} (h : k < xs.length := by first | assumption | omega | (simp; omega) | simp_all) : (nats xs)[k]? = some (.int .i64 ((xs[k] : Nat) : Int)) := by simp [h]
theorem bools_get {xs : List Bool} {k : Nat} (h : k < xs.length := by first | assumption | omega | (simp; omega) | simp_all) : (bools xs)[k]? = some (.bool xs[k]) := by simp [h]
theorem byts_get {xs : List Nat} {k : Nat} (h : k < xs.length := by first | assumption | omega | (simp; omega) | simp_all) : (byts xs)[k]? = some (.int .u8 ((xs[k] : Nat) : Int)) := by simp [h]
theorem ints_one (xs : List Int) : ((ints xs).all oneB) = true := by simp [oneB]
theorem bools_one (xs : List Bool) : ((bools xs).all oneB) = true := by simp [oneB]
theorem byts_one (xs : List Nat) : ((byts xs).all oneB) = true := by simp [oneB]
def Plan (P : Program) (T : TypeId) (pl : List (Nat × Nat)) : Prop :=
 ∃ fields, P.underlying T = some (.struct fields) ∧ ∀ w : World, (fields.mapM fun f => do pure (f.offset, ← sizeOf f.type) : Sem (Array (Nat × Nat))).run P w = .ok pl.toArray w
section
variable {P : Program} {base : World} {ρ : Env} {O : List Item} {dst : Option Nat} {t : TypeId} {p : String} {af : Array Edge} {g : Option (Nat × Bool)}
theorem q_idx {x y : Operand} {T E : TypeId} {b o n c i : Nat} {k : IntKind} {z : Value} {by_ : Nat} (hu : P.underlying T = some (.slice E)) (hi : Inf P E z 1 by_) (hx : ev ρ x = .slice (some ⟨b, o, none⟩) n c) (hy : ev ρ y = .int k (i : Int)) (hlt : i < n) :
  QT P base ⟨dst, .indexAddr T x y, t, p, af, g⟩ ρ O (.pointer (some ⟨b, o + i, none⟩)) := by
 have := q_indexAddr (P := P) (base := base) (O := O) (dst := dst) (t := t) (p := p) (af := af) (g := g) hu hi hx hy hlt
 rwa [Nat.mul_one] at this
theorem q_pick1 {c a b : Operand} {v : Value} (hc : ev ρ c = .bool true) (ha : ev ρ a = v) : QT P base ⟨dst, .pick c a b, t, p, af, g⟩ ρ O v := fun w _ => by simp [execOp, hc, ha, asBool]
theorem q_pick0 {c a b : Operand} {v : Value} (hc : ev ρ c = .bool false) (hb : ev ρ b = v) : QT P base ⟨dst, .pick c a b, t, p, af, g⟩ ρ O v := fun w _ => by simp [execOp, hc, hb, asBool]
theorem q_build {T : TypeId} {parts : List (Nat × Operand)} {pl : List (Nat × Nat)} {z : Value} {s by_ : Nat} {cs : List Value} (hp : Plan P T pl) (hi : Inf P T z s by_) (hf : Instr.fill (fun i => pl[i]?) z.cells (parts.map fun q => (q.1, ev ρ q.2)) = some cs.toArray) :
  QT P base ⟨dst, .build T parts.toArray, t, p, af, g⟩ ρ O (.agg cs.toArray) := fun w _ => by
 obtain ⟨fields, hu, hm⟩ := hp
 have hf' : Instr.fill (fun i => pl.toArray[i]?) z.cells (parts.map fun q => (q.1, ev ρ q.2)) = some cs.toArray := by simpa using hf
 simp only [execOp, Instr.build, Sem.run_bind, run_zeroValue' hi, Result.andThen_ok, run_underlying' hu, hm w]
 simp at hf'
 simp [hf']
end
end Go.Lx


namespace Go.Lx
open Go.RowKit
theorem QT.toB {P : Program} {base : World} {o : Oper} {ρ : Env} {O : List Item} {b b' : Bool} (h : QT P base o ρ O (.bool b)) (e : b = b') : QT P base o ρ O (.bool b') := e ▸ h
def RowsR (w : World) (vs : List Value) (rs : List (List Int)) : Prop :=
 vs.length = rs.length ∧ ∀ (i : Nat) (r : List Int), rs[i]? = some r → ∃ b c, vs[i]? = some (Value.slice b r.length c) ∧ Sl w b (ints r)
theorem RowsR.get {w : World} {vs : List Value} {rs : List (List Int)} (h : RowsR w vs rs) {i : Nat} (hi : i < rs.length) : ∃ b c, vs[i]? = some (Value.slice b rs[i].length c) ∧ Sl w b (ints rs[i]) :=
 h.2 i rs[i] (List.getElem?_eq_getElem hi)
theorem RowsR.keep {w w' : World} {vs : List Value} {rs : List (List Int)} (h : RowsR w vs rs) (hb : ∀ k, k < w.heap.size → w'.heap[k]? = w.heap[k]?) : RowsR w' vs rs :=
 ⟨h.1, fun i r hr => by obtain ⟨b, c, h1, h2⟩ := h.2 i r hr; exact ⟨b, c, h1, h2.keep hb⟩⟩
theorem Inv.rows {base : World} {O : List Item} {w : World} (hI : Inv base O w) {vs : List Value} {rs : List (List Int)} (h : RowsR base vs rs) : RowsR w vs rs := h.keep hI.below.block
structure Rec where
 b : Option Addr
 c : Nat
 xs : List Int
def Rec.val (q : Rec) : Value := .slice q.b q.xs.length q.c
def Rec.itm (E : TypeId) (q : Rec) : Item := rowI q.b q.c E 1 (ints q.xs)
abbrev vals (qs : List Rec) : List Value := qs.map Rec.val
abbrev itms (E : TypeId) (qs : List Rec) : List Item := qs.map (Rec.itm E)
abbrev nums (qs : List Rec) : List (List Int) := qs.map Rec.xs
theorem Inv.recs {base : World} {O : List Item} {w : World} (hI : Inv base O w) {E : TypeId} {qs : List Rec} (h : ∀ q ∈ qs, q.itm E ∈ O) : RowsR w (vals qs) (nums qs) := by
 refine ⟨by simp, fun i r hr => ?_⟩
 obtain ⟨q, hq, rfl⟩ : ∃ q, qs[i]? = some q ∧ q.xs = r := by
  rw [List.getElem?_map] at hr
  cases e : qs[i]? with
  | none => rw [e] at hr; cases hr
  | some q => rw [e] at hr; exact ⟨q, rfl, by simpa using hr⟩
 refine ⟨q.b, q.c, by simp [hq, Rec.val], ?_⟩
 exact rowP.sl (hI.holds _ (h q (List.mem_of_getElem? hq)))
theorem Inv.slOf {base : World} {O : List Item} {w : World} (hI : Inv base O w) {b : Option Addr} {c : Nat} {T : TypeId} {k : Nat} {cs : List Value} (h : rowI b c T k cs ∈ O) : Sl w b cs := rowP.sl (hI.holds _ h)
section
variable {P : Program} {r : Option Nat} {base : World} {n : Nat} {ρ : Env} {O : List Item} {K : Env → List Item → Prop} {d : Nat} {t : TypeId} {p : String} {af : Array Edge} {g : Option (Nat × Bool)} {dst : Option Nat}
theorem l_appendN {T U E XE : TypeId} {l s by_ : Nat} {x y : Operand} {xv z : Value} {new : List Value}
  (hu : P.underlying T = some (.slice E)) (hxu : P.underlying U = some (.slice XE)) (hi : Inf P E z s by_) (hz : z.cells.size = s)
  (hx : ev ρ x = .slice none 0 0) (hy : ev ρ y = xv) (hs : 0 < s)
  (hsrc : Src P base O s l xv new) (hone : (new.all oneB) = true) (hsz : l * by_ ≤ 70368744177664) (hby : by_ ≤ 1000000) (hsz' : 0 < by_)
  (h : ∀ b' c', K (upd ρ d (.slice b' l c')) (rowI b' c' E s new :: O)) (hn : Nat.blt d n = true := by rfl) :
  LT P r base n ⟨some d, .call ⟨.builtin .append, #[x, y], #[T, U]⟩, t, p, af, g⟩ ρ O K :=
 LT.of_run hn fun w M hI => by
  have hI' := hI.nilRow E s
  have hsrc' : Src P base (rowI none 0 E s [] :: (O ++ M)) s l xv new := ⟨hsrc.1, hsrc.2.1, fun w hI => hsrc.2.2 w (hI.sub (List.sublist_cons_self _ _)).left⟩
  obtain ⟨b', c', w', hr, hI''⟩ := run_append (j := 0) (ty := t) (m := 0) hu hxu (.inl ⟨_, rfl⟩) hi hz rfl (by simp) hs hsrc' hone (by simpa using hsz) hby hsz' hI'
  refine ⟨_, w', _, ?_, hI'', by simpa using h b' c'⟩
  rw [Nat.zero_add] at hr
  simp [execOp, resolve, hx, hy, invoke, builtin, hr]
theorem l_build1 {T E : TypeId} {x : Operand} {v : Value} {z : Value} {by_ : Nat} (hu : P.underlying T = some (.slice E)) (hi : Inf P E z 1 by_) (_hz : z.cells.size = 1) (hx : ev ρ x = v) (hv : oneB v = true)
  (h : ∀ b, K (upd ρ d (.slice (some ⟨b, 0, none⟩) 1 1)) (rowI (some ⟨b, 0, none⟩) 1 E 1 [v] :: O)) (hn : Nat.blt d n = true := by rfl) : LT P r base n ⟨some d, .buildSlice T 1 #[(0, x)], t, p, af, g⟩ ρ O K := by
 refine l_buildSlice (parts := [(0, x)]) (cs := [v]) hu hi (by omega) ?_ (by simp) h hn
 have hc : v.cells = #[v] := by cases v <;> simp_all [oneB, Value.cells]
 simp [Instr.fill, hx, hc]
 apply Array.ext_getElem?
 intro i
 cases i with
 | zero => simp
 | succ i => simp
end
theorem sub_push {A B C : Item} {I R : List Item} : Sub (A :: ((I ++ [C]) ++ R)) (B :: C :: A :: (I ++ R)) :=
 ⟨C :: A :: (I ++ R), by
  have : (I ++ [C] ++ R).Perm (C :: (I ++ R)) := by
   rw [List.append_assoc]
   exact List.perm_middle
  exact (List.Perm.cons A this).trans (List.Perm.swap C A _), List.Sublist.cons _ (List.Sublist.refl _)⟩
theorem sub_push' {A B C : Item} {I : List Item} : Sub (A :: (I ++ [C])) (B :: C :: A :: I) := by
 have := sub_push (A := A) (B := B) (C := C) (I := I) (R := [])
 simpa using this
structure DFA where
 vars : Int
 start : Int
 next : List (List Int)
 final : List Bool
 deriving DecidableEq
structure DfaAt (w : World) (d : DFA) (nb : Option Addr) (vs : List Value) (fb : Option Addr) : Prop where
 outer : Sl w nb vs
 rows : RowsR w vs d.next
 final : Sl w fb (bools d.final)
theorem DfaAt.keep {w w' : World} {d : DFA} {nb : Option Addr} {vs : List Value} {fb : Option Addr} (h : DfaAt w d nb vs fb) (hb : ∀ k, k < w.heap.size → w'.heap[k]? = w.heap[k]?) : DfaAt w' d nb vs fb :=
 ⟨h.outer.keep hb, h.rows.keep hb, h.final.keep hb⟩
theorem Inv.dfa {base : World} {O : List Item} {w : World} (hI : Inv base O w) {d : DFA} {nb : Option Addr} {vs : List Value} {fb : Option Addr} (h : DfaAt base d nb vs fb) : DfaAt w d nb vs fb := h.keep hI.below.block
abbrev dfaCells (d : DFA) (nb : Option Addr) (nc : Nat) (fb : Option Addr) (fc : Nat) : List Value := [.int .i64 d.vars, .int .i64 d.start, .slice nb d.next.length nc, .slice fb d.final.length fc]
end Go.Lx


namespace Go.Lx
open Go.RowKit
noncomputable def one (a b : Item) : Nat := open Classical in if b = a then 1 else 0
noncomputable def cnt (a : Item) : List Item → Nat
 | [] => 0
 | b :: l => one a b + cnt a l
theorem cnt_nil (a : Item) : cnt a [] = 0 := rfl
theorem cnt_cons (a b : Item) (l : List Item) : cnt a (b :: l) = one a b + cnt a l := rfl
theorem cnt_append (a : Item) (l m : List Item) : cnt a (l ++ m) = cnt a l + cnt a m := by
 induction l with
 | nil => simp [cnt]
 | cons b l ih => rw [List.cons_append, cnt_cons, ih, cnt_cons]; omega
theorem cnt_pos {a : Item} {l : List Item} (h : 0 < cnt a l) : ∃ l1 l2, l = l1 ++ a :: l2 := by
 induction l with
 | nil => simp [cnt] at h
 | cons b l ih =>
  by_cases e : b = a
  ·subst e; exact ⟨[], l, rfl⟩
  ·obtain ⟨l1, l2, rfl⟩ := ih (by simpa [cnt, one, e] using h)
   exact ⟨b :: l1, l2, rfl⟩
theorem perm_of_cnt : ∀ {l m : List Item}, (∀ a, cnt a l = cnt a m) → l.Perm m
 | [], m, h => by
  cases m with
  | nil => exact List.Perm.refl _
  | cons b m => have := h b; simp [cnt, one] at this; omega
 | b :: l, m, h => by
  obtain ⟨m1, m2, rfl⟩ := cnt_pos (a := b) (l := m) (by rw [← h b]; simp [cnt, one]; omega)
  have h' : ∀ a, cnt a l = cnt a (m1 ++ m2) := fun a => by
   have := h a
   rw [cnt_cons, cnt_append, cnt_cons] at this
   rw [cnt_append]; omega
  exact (List.Perm.cons b (perm_of_cnt h')).trans List.perm_middle.symm
theorem Sub.cnt {O' O : List Item} (D : List Item) (h : ∀ a, Lx.cnt a (O' ++ D) = Lx.cnt a O) : Sub O' O := by
 have hp := perm_of_cnt h
 obtain ⟨l, h1, h2⟩ := List.exists_perm_sublist (List.sublist_append_left O' D) hp
 exact ⟨l, h1.symm, h2⟩
def getI : List Item → Nat → List Item
 | [], _ => []
 | a :: _, 0 => [a]
 | _ :: l, i + 1 => getI l i
def dropI : List Item → Nat → List Item
 | [], _ => []
 | _ :: l, 0 => l
 | a :: l, i + 1 => a :: dropI l i
def pickL : List Nat → List Item → List Item
 | [], _ => []
 | i :: is, L => getI L i ++ pickL is (dropI L i)
def restL : List Nat → List Item → List Item
 | [], L => L
 | i :: is, L => restL is (dropI L i)
theorem getI_drop : ∀ (L : List Item) (i : Nat), (getI L i ++ dropI L i).Perm L
 | [], i => List.Perm.refl _
 | a :: l, 0 => List.Perm.refl _
 | a :: l, i + 1 => by
  have ih := getI_drop l i
  show (getI l i ++ a :: dropI l i).Perm (a :: l)
  exact List.perm_middle.trans (List.Perm.cons a ih)
theorem pick_perm : ∀ (is : List Nat) (L : List Item), (pickL is L ++ restL is L).Perm L
 | [], L => List.Perm.refl _
 | i :: is, L => by
  show ((getI L i ++ pickL is (dropI L i)) ++ restL is (dropI L i)).Perm L
  rw [List.append_assoc]
  exact ((pick_perm is (dropI L i)).append_left _).trans (getI_drop L i)
theorem Sub.of_perm {O' D O : List Item} (h : (O' ++ D).Perm O) : Sub O' O := by
 obtain ⟨l, h1, h2⟩ := List.exists_perm_sublist (List.sublist_append_left O' D) h
 exact ⟨l, h1.symm, h2⟩
theorem Sub.pick (is : List Nat) {L O' : List Item} (h : pickL is L = O') : Sub O' L := h ▸ Sub.of_perm (pick_perm is L)
theorem Sub.pickR (is : List Nat) (L R : List Item) {O' O : List Item} (h : pickL is L ++ R = O') (h2 : L ++ R = O) : Sub O' O := by
 subst h; subst h2; exact (Sub.pick is rfl).app
theorem Sub.pick0 (is : List Nat) (L R : List Item) {O' O : List Item} (h : pickL is L = O') (h2 : L ++ R = O) : Sub O' O := by
 subst h; subst h2; exact Sub.of_perm (D := restL is L ++ R) (by rw [← List.append_assoc]; exact (pick_perm is L).append_right R)
section
variable {P : Program} {r : Option Nat} {base : World} {n : Nat} {ρ : Env} {O O' S : List Item} {K : Env → List Item → Prop} {ops : Array Oper} {l : List Oper} {tail : List Nat} {od : List (Nat × Nat)}
theorem TO.sub (hs : Sub O' O) (h : TO P r base n ops l K ρ O') : TO P r base n ops l K ρ O := fun Q a w M D hk ha hi => h Q a w M D hk ha (hi.subp hs.app)
theorem DO.sub {S2 : List Item} {tail2 : List Nat} (hs : Sub O' O) (h : DO P r base n ops S tail S2 tail2 od K ρ O') : DO P r base n ops S tail S2 tail2 od K ρ O :=
 fun h1 hnd h3 listed h4 Q a w M D hq hp ha hI hcl hS => h h1 hnd h3 listed h4 Q a w M D hq hp ha (hI.subp hs.app) hcl hS
theorem CallT.sub {f : FuncId} {args : List Value} {R : Value → List Item → Prop} (hs : Sub O' O) (h : CallT P base f args O' R) : CallT P base f args O R := fun w M hI => h w M (hI.subp hs.app)
theorem T.have {c : Code} {Q : Post} {φ : Prop} (hf : ∀ w, Inv base O w → φ) (h : φ → T P r base n c Q ρ O) : T P r base n c Q ρ O := fun a w M D hM ha hi => h (hf w hi.left) a w M D hM ha hi
end
end Go.Lx


namespace Go.Lx
open Go.RowKit
section
variable {P : Program} {base : World} {ρ : Env} {O : List Item} {dst : Option Nat} {t : TypeId} {p : String} {af : Array Edge} {g : Option (Nat × Bool)}
theorem q_shl {x y : Operand} {T U : TypeId} {k k' : IntKind} {a b : Int} (hx : ev ρ x = .int k a) (hy : ev ρ y = .int k' b) (h0 : 0 ≤ b) : QT P base ⟨dst, .binOp .shl T x y U, t, p, af, g⟩ ρ O (.int k (k.wrap (a * 2 ^ (min b.toNat k.bits)))) := fun w _ => by
 have : ¬ b < 0 := by omega
 simp [execOp, hx, hy, eqGuard, binOp, Op.shift, this]
theorem q_shl1 {x y : Operand} {T U : TypeId} {k' : IntKind} {v : Nat} (hx : ev ρ x = .int .i64 1) (hy : ev ρ y = .int k' (v : Int)) (hv : v ≤ 60) : QT P base ⟨dst, .binOp .shl T x y U, t, p, af, g⟩ ρ O (.int .i64 ((2 ^ v : Nat) : Int)) := by
 have h := q_shl (P := P) (base := base) (O := O) (dst := dst) (t := t) (p := p) (af := af) (g := g) (T := T) (U := U) hx hy (by omega)
 have e : min (v : Int).toNat (IntKind.i64.bits) = v := by
  have : IntKind.i64.bits = 64 := rfl
  rw [this]; simp; omega
 rw [e] at h
 have hle : (2 : Nat) ^ v ≤ 2 ^ 60 := Nat.pow_le_pow_right (by omega) hv
 have h60 : (2 : Nat) ^ 60 = 1152921504606846976 := by rfl
 have e2 : (1 : Int) * 2 ^ v = ((2 ^ v : Nat) : Int) := by rw [Int.one_mul, Int.natCast_pow]; rfl
 rw [e2] at h
 rw [h60] at hle
 generalize (2 : Nat) ^ v = q at *
 rwa [wrap64_id (by omega)] at h
theorem q_rem {x y : Operand} {T U : TypeId} {k : IntKind} {a b : Int} (hx : ev ρ x = .int k a) (hy : ev ρ y = .int k b) (h0 : b ≠ 0) : QT P base ⟨dst, .binOp .rem T x y U, t, p, af, g⟩ ρ O (.int k (a.tmod b)) := fun w _ => by
 simp [execOp, hx, hy, eqGuard, binOp, Op.intDiv, h0]
theorem q_min {x y : Operand} {ats : Array TypeId} {k k' : IntKind} {a b : Int} (hx : ev ρ x = .int k a) (hy : ev ρ y = .int k' b) : QT P base ⟨dst, .call ⟨.builtin .min, #[x, y], ats⟩, t, p, af, g⟩ ρ O (.int k (if b < a then b else a)) := fun w _ => by
 simp [execOp, resolve, hx, hy, invoke, builtin, Builtin.min_, Builtin.min2]
theorem q_max {x y : Operand} {ats : Array TypeId} {k k' : IntKind} {a b : Int} (hx : ev ρ x = .int k a) (hy : ev ρ y = .int k' b) : QT P base ⟨dst, .call ⟨.builtin .max, #[x, y], ats⟩, t, p, af, g⟩ ρ O (.int k (if b > a then b else a)) := fun w _ => by
 simp [execOp, resolve, hx, hy, invoke, builtin, Builtin.max_, Builtin.max2]
def str (l : List UInt8) : Value := .string ⟨l.toArray⟩
abbrev cells8 (l : List UInt8) : List Value := l.map fun b : UInt8 => Value.int .u8 (b.toNat : Int)
theorem cells8_one (l : List UInt8) : ((cells8 l).all oneB) = true := by simp [oneB]
theorem run_b2s {w : World} {b : Option Addr} {n c : Nat} {l : List UInt8} (h : Sl w b (cells8 l)) (hl : l.length = n) : (Conv.bytesToString (.slice b n c)).run P w = .ok (str l) w := by
 subst hl
 cases b with
 | none =>
  have : l = [] := by
   cases l with
   | nil => rfl
   | cons a l => obtain ⟨_, h1, _⟩ := h 0 (by simp); cases h1
  subst this; rfl
 | some a =>
  obtain ⟨k, o, sp⟩ := a
  have hl := firstCells_run (P := P) (c := c) (m := l.length) (s := 1) h (by simp) (by simp)
  simp only [Builtin.firstCells, Nat.mul_one] at hl
  have fold : ∀ (l : List UInt8) (acc : ByteArray), List.foldl (fun (b : ByteArray) (a : UInt8) => ByteArray.mk (b.data.push a)) acc l = ⟨(acc.data.toList ++ l).toArray⟩ := by
   intro l
   induction l with
   | nil => intro acc; simp
   | cons b l ih => intro acc; rw [List.foldl_cons, ih]; simp
  simp only [Conv.bytesToString, Sem.run_bind, hl, Result.andThen_ok]
  simp [cells8, ByteArray.push, fold, str]
theorem q_b2s {x : Operand} {S D E : TypeId} {b : Option Addr} {n c c' k : Nat} {l : List UInt8} (hs : P.underlying S = some (.slice E)) (hd : P.underlying D = some .string) (he : P.underlying E = some (.int .u8)) (hx : ev ρ x = .slice b n c)
  (hO : rowI b c' E k (cells8 l) ∈ O) (hl : l.length = n) : QT P base ⟨dst, .convert S D x, t, p, af, g⟩ ρ O (str l) := fun w hI => by
 simp [execOp, hx, convert, run_underlying' hs, run_underlying' hd, run_underlying' he, run_b2s (hI.slOf hO) hl]
def mapP {α β : Type} (K : α → Value) (V : β → Value) (m : Nat) (l : List (α × β)) (w : World) : Prop :=
 ∃ es clk, w.heap[m]? = some (.map es clk) ∧ es.toList.map (fun e => (e.key, e.val)) = (l.map fun q => (K q.1, V q.2)) ∧ (es.toList.map (·.born)).Nodup ∧ ∀ e ∈ es.toList, e.born < clk
def mapI {α β : Type} (K : α → Value) (V : β → Value) (m : Nat) (l : List (α × β)) : Item where
 blocks := [m]
 P := mapP K V m l
 loc := fun w w' h hp => by
  obtain ⟨es, clk, h1, h2⟩ := hp
  exact ⟨es, clk, by rw [h m (by simp)]; exact h1, h2⟩
def findL {α : Type} [DecidableEq α] (a : α) : List α → List MapEntry → Nat → Option (Nat × Value)
 | k :: ks, e :: es, i => if a = k then some (i, e.val) else findL a ks es (i + 1)
 | _, _, _ => none
structure KeyOk (P : Program) {α : Type} [DecidableEq α] (kt : TypeId) (K : α → Value) : Prop where
 check : ∀ e a w, (Instr.checkKey e 10000 kt (K a)).run P w = .ok () w
 find : ∀ (es : List MapEntry) (ks : List α) (a : α) (w : World), es.map (·.key) = ks.map K → (Instr.findKey kt (K a) es).run P w = .ok (findL a ks es 0) w
theorem KeyOk.int {kt : TypeId} {k : IntKind} (hu : P.underlying kt = some (.int k)) : KeyOk P kt (fun a : Int => Value.int .i64 a) where
 check := fun e a w => by
  show (Instr.checkKey e (9999 + 1) kt _).run P w = _
  rw [Instr.checkKey]
  simp [run_underlying' hu, str]
 find := fun es ks a w h => by
  have key : ∀ (es : List MapEntry) (ks : List Int) (i : Nat), es.map (·.key) = ks.map (fun a : Int => Value.int .i64 a) → Instr.findNow (.int k) (.int .i64 a) es i = some (findL a ks es i) := by
   intro es
   induction es with
   | nil => intro ks i h; cases ks <;> simp_all [Instr.findNow, findL]
   | cons e es ih =>
    intro ks i h
    cases ks with
    | nil => simp at h
    | cons b ks =>
     simp only [List.map_cons, List.cons.injEq] at h
     simp only [Instr.findNow, h.1, Instr.sameNow, if_true, findL]
     by_cases e : a = b
     ·simp [e]
     ·have : (a == b) = false := by simpa using e
      simp [this, e, ih ks (i + 1) h.2]
  simp [Instr.findKey, run_underlying' hu, key es ks 0 h]
theorem bytes_eq (a b : List UInt8) : ((⟨a.toArray⟩ : ByteArray) == ⟨b.toArray⟩) = decide (a = b) := by
 show (a.toArray == b.toArray) = _
 by_cases e : a = b
 ·subst e; simp
 ·simp [e]
theorem KeyOk.string {kt : TypeId} (hu : P.underlying kt = some .string) : KeyOk P kt str where
 check := fun e a w => by
  show (Instr.checkKey e (9999 + 1) kt _).run P w = _
  rw [Instr.checkKey]
  simp [run_underlying' hu, str]
 find := fun es ks a w h => by
  have key : ∀ (es : List MapEntry) (ks : List (List UInt8)) (i : Nat), es.map (·.key) = ks.map str → Instr.findNow .string (str a) es i = some (findL a ks es i) := by
   intro es
   induction es with
   | nil => intro ks i h; cases ks <;> simp_all [Instr.findNow, findL]
   | cons e es ih =>
    intro ks i h
    cases ks with
    | nil => simp at h
    | cons b ks =>
     simp only [List.map_cons, List.cons.injEq] at h
     simp only [Instr.findNow, h.1, Instr.sameNow, str, bytes_eq, findL]
     by_cases e : a = b
     ·simp [e]
     ·have := ih ks (i + 1) h.2
      simp only [str] at this
      simp [e, this]
  simp [Instr.findKey, run_underlying' hu, key es ks 0 h]
theorem findL_none {α : Type} [DecidableEq α] {a : α} : ∀ (ks : List α) (es : List MapEntry) (i : Nat), a ∉ ks → findL a ks es i = none
 | [], _, _, _ => rfl
 | k :: ks, [], _, _ => rfl
 | k :: ks, e :: es, i, h => by
  simp only [List.mem_cons, not_or] at h
  simp [findL, h.1, findL_none ks es (i + 1) h.2]
def lookL {α β : Type} [DecidableEq α] (a : α) : List (α × β) → Option β
 | [] => none
 | q :: l => if a = q.1 then some q.2 else lookL a l
theorem findL_look {α β : Type} [DecidableEq α] {K : α → Value} {V : β → Value} {a : α} : ∀ (l : List (α × β)) (es : List MapEntry) (i : Nat), es.map (fun e => (e.key, e.val)) = l.map (fun q => (K q.1, V q.2)) → (findL a (l.map Prod.fst) es i).map Prod.snd = (lookL a l).map V
 | [], es, i, h => by cases es <;> rfl
 | q :: l, [], i, h => by simp at h
 | q :: l, e :: es, i, h => by
  simp only [List.map_cons, List.cons.injEq, Prod.mk.injEq] at h
  simp only [List.map_cons, findL, lookL]
  by_cases e : a = q.1
  ·simp [e, h.1.2]
  ·simp only [e, if_false]; exact findL_look l es (i + 1) h.2
theorem keys_of {α β : Type} {K : α → Value} {V : β → Value} {es : List MapEntry} {l : List (α × β)} (h : es.map (fun e => (e.key, e.val)) = l.map (fun q => (K q.1, V q.2))) : es.map (·.key) = (l.map Prod.fst).map K := by
 have := congrArg (List.map Prod.fst) h
 simpa [Function.comp_def] using this
theorem q_lenMap {x : Operand} {T kt vt : TypeId} {m : Nat} {α β : Type} {K : α → Value} {V : β → Value} {l : List (α × β)} (hu : P.underlying T = some (.map kt vt)) (hx : ev ρ x = .map (some m)) (hO : mapI K V m l ∈ O) :
  QT P base ⟨dst, .call ⟨.builtin .len, #[x], #[T]⟩, t, p, af, g⟩ ρ O (.int .i64 (l.length : Int)) := fun w hI => by
 obtain ⟨es, clk, h1, h2, _⟩ := hI.holds _ hO
 have hl : es.size = l.length := by have := congrArg List.length h2; simpa using this
 simp [execOp, resolve, hx, invoke, builtin, Builtin.len_, run_underlying' hu, getObj, Sem.run, h1, goInt, hl]
theorem run_lookup {T kt vt : TypeId} {m : Nat} {α β : Type} [DecidableEq α] {K : α → Value} {V : β → Value} {l : List (α × β)} {z : Value} {s by_ : Nat} {w : World} (hu : P.underlying T = some (.map kt vt)) (hz : Inf P vt z s by_) (hk : KeyOk P kt K) (h : mapP K V m l w) (a : α) (ok : Bool) :
  (Instr.lookup T (.map (some m)) (K a) ok).run P w = .ok (if ok then .tuple #[((lookL a l).map V).getD z, .bool (lookL a l).isSome] else ((lookL a l).map V).getD z) w := by
 obtain ⟨es, clk, h1, h2, h3, h4⟩ := h
 have hf := hk.find es.toList (l.map Prod.fst) a w (keys_of h2)
 have hl := findL_look (a := a) l es.toList 0 h2
 have hg : (getObj m).run P w = .ok (.map es clk) w := by simp [getObj, Sem.run, h1]
 simp only [Instr.lookup, Sem.run_bind, run_underlying' hu, Result.andThen_ok, hg, Sem.run_pure, hk.check, hf]
 cases e : findL a (l.map Prod.fst) es.toList 0 with
 | none =>
  rw [e] at hl
  have : lookL a l = none := by cases e2 : lookL a l with | none => rfl | some v => rw [e2] at hl; cases hl
  simp [run_zeroValue' hz, this]
 | some q =>
  rw [e] at hl
  obtain ⟨i, v⟩ := q
  cases e2 : lookL a l with
  | none => rw [e2] at hl; cases hl
  | some u =>
   rw [e2] at hl
   simp at hl
   simp [hl]
theorem q_lookupOk {x y : Operand} {T kt vt : TypeId} {m : Nat} {α β : Type} [DecidableEq α] {K : α → Value} {V : β → Value} {l : List (α × β)} {z : Value} {s by_ : Nat} {a : α} (hu : P.underlying T = some (.map kt vt)) (hz : Inf P vt z s by_) (hk : KeyOk P kt K)
  (hx : ev ρ x = .map (some m)) (hy : ev ρ y = K a) (hO : mapI K V m l ∈ O) : QT P base ⟨dst, .lookup T x y true, t, p, af, g⟩ ρ O (.tuple #[((lookL a l).map V).getD z, .bool (lookL a l).isSome]) := fun w hI => by
 have := run_lookup hu hz hk (hI.holds _ hO) a true
 simp [execOp, hx, hy, this]
end
section
variable {P : Program} {r : Option Nat} {base : World} {n : Nat} {ρ : Env} {O : List Item} {K' : Env → List Item → Prop} {d : Nat} {t : TypeId} {p : String} {af : Array Edge} {g : Option (Nat × Bool)}
theorem l_makeMap {T : TypeId} {α β : Type} (K : α → Value) (V : β → Value) (h : ∀ m, K' (upd ρ d (.map (some m))) (mapI K V m [] :: O)) (hn : Nat.blt d n = true := by rfl) : LT P r base n ⟨some d, .makeMap T none, t, p, af, g⟩ ρ O K' :=
 LT.of_run hn fun w M hI => ⟨.map (some w.heap.size), w.alloc (.map #[] 0), _, by simp [execOp, Instr.makeMap], by
  refine Inv.new (O := O ++ M) (N := [mapI K V w.heap.size []]) (w' := w.alloc (.map #[] 0)) hI rfl rfl rfl (by simp) (fun b hb => Below.heap_alloc w _ b hb) ?_ ?_ (by simp [mapI])
  ·intro x hx
   simp at hx; subst hx
   exact ⟨#[], 0, by show (w.heap.push _)[w.heap.size]? = _; simp, rfl, by simp, by simp⟩
  ·intro x hx b hb
   simp at hx; subst hx
   simp [mapI] at hb; subst hb
   simp, h _⟩
theorem run_put {T kt vt : TypeId} {m : Nat} {α β : Type} [DecidableEq α] {K : α → Value} {V : β → Value} {l : List (α × β)} {w : World} {a : α} {v : β} (hu : P.underlying T = some (.map kt vt)) (hk : KeyOk P kt K) (h : mapP K V m l w) (hfresh : a ∉ l.map Prod.fst) :
  ∃ es clk, (Instr.mapUpdate T (.map (some m)) (K a) (V v)).run P w = .ok () (setB w m (.map es clk)) ∧ es.toList.map (fun e => (e.key, e.val)) = ((l ++ [(a, v)]).map fun q => (K q.1, V q.2)) ∧ (es.toList.map (·.born)).Nodup ∧ ∀ e ∈ es.toList, e.born < clk := by
 obtain ⟨es, clk, h1, h2, h3, h4⟩ := h
 have hf := hk.find es.toList (l.map Prod.fst) a w (keys_of h2)
 rw [findL_none _ _ _ hfresh] at hf
 have hg : (getObj m).run P w = .ok (.map es clk) w := by simp [getObj, Sem.run, h1]
 have hs : ∀ o, (setObj m o).run P w = .ok () (setB w m o) := fun o => by simp [setObj, Sem.run, h1, setB]
 refine ⟨es.push { key := K a, val := V v, born := clk }, clk + 1, ?_, by simp [h2], ?_, ?_⟩
 rotate_left
 ·simp only [Array.toList_push, List.map_append, List.map_cons, List.map_nil, List.nodup_append]
  refine ⟨h3, by simp, fun x hx y hy e => ?_⟩
  obtain ⟨z, hz, rfl⟩ := List.mem_map.1 hx
  simp at hy; have := h4 z hz; omega
 ·intro e he
  simp only [Array.toList_push, List.mem_append, List.mem_singleton] at he
  rcases he with he | rfl
  ·have := h4 e he; omega
  ·simp
 simp only [Instr.mapUpdate, Sem.run_bind, run_underlying' hu, Result.andThen_ok, hg, hk.check, hf, hs]
theorem Inv.setMap {w : World} {M : List Item} {α β : Type} {K : α → Value} {V : β → Value} {m i : Nat} {l l' : List (α × β)} (hI : Inv base (O ++ M) w) (hO : O[i]? = some (mapI K V m l)) {es : Array MapEntry} {clk : Nat} (h : es.toList.map (fun e => (e.key, e.val)) = (l'.map fun q => (K q.1, V q.2)) ∧ (es.toList.map (·.born)).Nodup ∧ ∀ e ∈ es.toList, e.born < clk) :
  Inv base (O.set i (mapI K V m l') ++ M) (setB w m (.map es clk)) := by
 obtain ⟨es0, clk0, h1, _, _⟩ := hI.holds (mapI K V m l) (List.mem_append_left _ (List.mem_of_getElem? hO))
 have hlt := (Array.getElem?_eq_some_iff.1 h1).1
 rw [← set_app hO]
 exact hI.stepAt (at_app hO) rfl rfl rfl (by rw [setB_size]; exact Nat.le_refl _) (fun k _ hk => setB_other (fun e => hk (by simp [mapI, e]))) ⟨es, clk, setB_same hlt, h⟩ (fun k hk => .inl hk) (by simp [mapI])
theorem l_mapPut (i : Nat) {x y z : Operand} {T kt vt : TypeId} {m : Nat} {α β : Type} [DecidableEq α] {K : α → Value} {V : β → Value} {l : List (α × β)} {a : α} {v : β} (hu : P.underlying T = some (.map kt vt)) (hk : KeyOk P kt K) (hx : ev ρ x = .map (some m)) (hy : ev ρ y = K a) (hz : ev ρ z = V v)
  (hO : O[i]? = some (mapI K V m l)) (hfresh : a ∉ l.map Prod.fst) (h : K' ρ (O.set i (mapI K V m (l ++ [(a, v)])))) : LT P r base n ⟨none, .mapUpdate T x y z, t, p, af, g⟩ ρ O K' :=
 LT.of_skip fun w M hI => by
  obtain ⟨es, clk, hr, hes⟩ := run_put (v := v) hu hk (hI.holds (mapI K V m l) (List.mem_append_left _ (List.mem_of_getElem? hO))) hfresh
  exact ⟨setB w m (.map es clk), _, by simp [execOp, hx, hy, hz, hr], hI.setMap hO hes, h⟩
theorem l_mapInsert (i : Nat) {x y z : Operand} {T kt vt : TypeId} {m : Nat} {α β : Type} [DecidableEq α] {K : α → Value} {V : β → Value} {l : List (α × β)} {a : α} {v : β} (hu : P.underlying T = some (.map kt vt)) (hk : KeyOk P kt K) (hx : ev ρ x = .map (some m)) (hy : ev ρ y = K a) (hz : ev ρ z = V v)
  (hO : O[i]? = some (mapI K V m l)) (hfresh : a ∉ l.map Prod.fst) (h : K' ρ (O.set i (mapI K V m (l ++ [(a, v)])))) : LT P r base n ⟨none, .insert T x y z, t, p, af, g⟩ ρ O K' :=
 LT.of_skip fun w M hI => by
  obtain ⟨es, clk, hr, hes⟩ := run_put (v := v) hu hk (hI.holds (mapI K V m l) (List.mem_append_left _ (List.mem_of_getElem? hO))) hfresh
  exact ⟨setB w m (.map es clk), _, by simp [execOp, hx, hy, hz, hr], hI.setMap hO hes, h⟩
end
end Go.Lx


namespace Go.Lx
open Go.RowKit
section
variable {P : Program} {base : World} {ρ : Env} {O : List Item} {dst : Option Nat} {t : TypeId} {p : String} {af : Array Edge} {g : Option (Nat × Bool)}
end
section
variable {P : Program} {r : Option Nat} {base : World} {n : Nat} {ρ : Env} {O : List Item} {K : Env → List Item → Prop} {d : Nat} {t : TypeId} {p : String} {af : Array Edge} {g : Option (Nat × Bool)}
theorem Inv.weaken {w : World} {it it' : Item} {i : Nat} (hI : Inv base O w) (hO : O[i]? = some it) (hb : it'.blocks = it.blocks) (hp : it.P w → it'.P w) : Inv base (O.set i it') w := by
 obtain ⟨A, B, e, hset⟩ := split_at hO
 rw [hset it']
 subst e
 refine ⟨hI.below, fun x hx => ?_, fun x hx b hb' => ?_, ?_⟩
 ·rcases List.mem_append.1 hx with hx | hx
  ·exact hI.holds x (by simp [hx])
  ·rcases List.mem_cons.1 hx with rfl | hx
   ·exact hp (hI.holds it (by simp))
   ·exact hI.holds x (by simp [hx])
 ·rcases List.mem_append.1 hx with hx | hx
  ·exact hI.fresh x (by simp [hx]) b hb'
  ·rcases List.mem_cons.1 hx with rfl | hx
   ·rw [hb] at hb'; exact hI.fresh it (by simp) b hb'
   ·exact hI.fresh x (by simp [hx]) b hb'
 ·have := hI.nodup
  simpa [List.flatMap_append, List.flatMap_cons, hb] using this
theorem l_tail (i : Nat) {x y : Operand} {T E : TypeId} {b : Option Addr} {m c k by_ : Nat} {z : Value} {kk : IntKind} {cs : List Value} (hu : P.underlying T = some (.slice E)) (hi : Inf P E z k by_) (hk : 0 < k) (hx : ev ρ x = .slice b m c) (hy : ev ρ y = .int kk 1)
  (hO : O[i]? = some (rowI b c E k cs)) (hl : cs.length = m * k) (hm : 0 < m)
  (h : ∀ b', K (upd ρ d (.slice b' (m - 1) (c - 1))) (O.set i (rowI b' (c - 1) E k (cs.drop k)))) (hn : Nat.blt d n = true := by rfl) : LT P r base n ⟨some d, .slice T x (some y) none none, t, p, af, g⟩ ρ O K :=
 LT.of_run hn fun w M hI => by
  have hrow := hI.row (at_app hO)
  cases b with
  | none =>
   obtain ⟨rfl, rfl⟩ := hrow
   have : m * k = 0 := by simpa using hl.symm
   have : 0 < m * k := Nat.mul_pos hm hk
   omega
  | some a =>
   obtain ⟨bk, o, sp⟩ := a
   obtain ⟨hsp, full, hb, h1, h2, h3⟩ := hrow
   simp only at hsp hb h1 h2 h3
   subst hsp
   have hmc : m ≤ c := by
    rw [hl] at h1
    exact Nat.le_of_mul_le_mul_right h1 hk
   have hdl : (cs.drop k).length ≤ (c - 1) * k := by
    rw [List.length_drop, hl, Nat.sub_mul, Nat.one_mul]
    have := Nat.mul_le_mul_right k hmc
    omega
   have hck : (c - 1) * k + k = c * k := by
    have : c - 1 + 1 = c := by omega
    rw [← this, Nat.add_mul, Nat.one_mul, Nat.add_sub_cancel]
   refine ⟨.slice (if c = 1 then some ⟨bk, o, none⟩ else some ⟨bk, o + k, none⟩) (m - 1) (c - 1), w, _, ?_, ?_, h _⟩
   ·have e1 : (1 : Int) ≤ (m : Int) := by omega
    by_cases e : c = 1
    ·simp [execOp, Instr.sliceAt, Instr.slice, hx, hy, run_underlying' hu, run_sizeOf' hi, Instr.sliceBounds, Instr.sliceBound, asIntOf, e1, e]
    ·simp [execOp, Instr.sliceAt, Instr.slice, hx, hy, run_underlying' hu, run_sizeOf' hi, Instr.sliceBounds, Instr.sliceBound, asIntOf, e1, e, add_off]
   ·rw [← set_app hO]
    refine hI.weaken (at_app hO) (by split <;> rfl) fun _ => ?_
    by_cases e : c = 1
    ·simp only [e, if_true]
     have hm1 : m = 1 := by omega
     subst hm1
     have : cs.drop k = [] := by simp [hl]
     rw [this]
     refine ⟨rfl, full, hb, by simp, by simp; omega, by simp⟩
    ·simp only [e, if_false]
     refine ⟨rfl, full, hb, hdl, by simp only; omega, fun q hq => ?_⟩
     have hq' : k + q < cs.length := by rw [List.length_drop] at hq; omega
     have := h3 (k + q) hq'
     simp only [List.getElem_drop]
     rw [show o + k + q = o + (k + q) by omega]
     exact this
theorem Src.str {s : List UInt8} {m : Nat} (hl : s.length = m) : Src P base O 1 m (str s) (cells8 s) :=
 ⟨by simp [hl], fun w => by
  have e : (ByteArray.mk s.toArray).size = m := by show s.toArray.size = _; simp [hl]
  simp [Lx.str, Builtin.lenOf, e], fun w _ => by
  subst hl
  have e : (ByteArray.mk s.toArray).extract 0 s.length = ByteArray.mk s.toArray := by
   have := ByteArray.extract_zero_size (b := ByteArray.mk s.toArray)
   simpa [ByteArray.size] using this
  simp [Lx.str, Builtin.firstCells, e, cells8]⟩
theorem l_appendS {T U E : TypeId} {b : Option Addr} {m c l by_ : Nat} {x y : Operand} {z : Value} {cs : List Value} {s : List UInt8} (j : Nat)
  (hu : P.underlying T = some (.slice E)) (hxu : P.underlying U = some .string) (hi : Inf P E z 1 by_) (hz : z.cells.size = 1)
  (hx : ev ρ x = .slice b m c) (hy : ev ρ y = str s) (hO : O[j]? = some (rowI b c E 1 cs)) (hl : cs.length = m) (hs : s.length = l)
  (hsz : (m + l) * by_ ≤ 70368744177664) (hby : by_ ≤ 1000000) (hsz' : 0 < by_)
  (h : ∀ b' c', K (upd ρ d (.slice b' (m + l) c')) (O.set j (rowI b' c' E 1 (cs ++ cells8 s)))) (hn : Nat.blt d n = true := by rfl) :
  LT P r base n ⟨some d, .call ⟨.builtin .append, #[x, y], #[T, U]⟩, t, p, af, g⟩ ρ O K :=
 LT.of_run hn fun w M hI => by
  obtain ⟨b', c', w', hr, hI'⟩ := run_append (ty := t) hu hxu (.inr rfl) hi hz (at_app hO) (by simpa using hl) (by decide) (Src.app (Src.str hs)) (cells8_one s) hsz hby hsz' hI
  rw [set_app hO] at hI'
  refine ⟨_, w', _, ?_, hI', h b' c'⟩
  simp [execOp, resolve, hx, hy, invoke, builtin, hr]
end
theorem QT.cast {P : Program} {base : World} {o : Oper} {ρ : Env} {O : List Item} {v v' : Value} (h : QT P base o ρ O v) (e : v = v') : QT P base o ρ O v' := e ▸ h
def elP (b : Option Addr) (i : Nat) : Value := .pointer (b.map fun a => ⟨a.block, a.off + i, none⟩)
theorem Sl.o {base : World} {O : List Item} {b : Option Addr} {cs : List Value} (h : Sl base b cs) : ∀ w, Inv base O w → Sl w b cs := fun _ hI => hI.sl h
theorem rowO {base : World} {O : List Item} {b : Option Addr} {c k : Nat} {E : TypeId} {cs : List Value} (h : rowI b c E k cs ∈ O) : ∀ w, Inv base O w → Sl w b cs := fun _ hI => hI.slOf h
section
variable {P : Program} {base : World} {ρ : Env} {O : List Item} {dst : Option Nat} {t : TypeId} {p : String} {af : Array Edge} {g : Option (Nat × Bool)}
theorem q_ixK {x y : Operand} {T E : TypeId} {b : Option Addr} {n c i : Nat} {kk : IntKind} {z : Value} {s by_ : Nat} {cs : List Value} (hu : P.underlying T = some (.slice E)) (hi : Inf P E z s by_) (hx : ev ρ x = .slice b n c) (hy : ev ρ y = .int kk (i : Int)) (hs : ∀ w, Inv base O w → Sl w b cs) (hlt : i < n) (hl : i * s < cs.length) :
  QT P base ⟨dst, .indexAddr T x y, t, p, af, g⟩ ρ O (elP b (i * s)) := fun w hI => by
 obtain ⟨bk, o, rfl⟩ := (hs w hI).addr hl
 exact q_indexAddr hu hi hx hy hlt w hI
theorem q_ix {x y : Operand} {T E : TypeId} {b : Option Addr} {n c i : Nat} {kk : IntKind} {z : Value} {by_ : Nat} {cs : List Value} (hu : P.underlying T = some (.slice E)) (hi : Inf P E z 1 by_) (hx : ev ρ x = .slice b n c) (hy : ev ρ y = .int kk (i : Int)) (hs : ∀ w, Inv base O w → Sl w b cs) (hlt : i < n := by first | assumption | omega | (simp; omega) | simp_all) (hl : i < cs.length := by first | omega | (simp; done) | (simp; omega) | (simp_all; done) | (simp_all; omega)) :
  QT P base ⟨dst, .indexAddr T x y, t, p, af, g⟩ ρ O (elP b i) := by
 have := q_ixK (P := P) (base := base) (O := O) (dst := dst) (t := t) (p := p) (af := af) (g := g) hu hi hx hy hs hlt (by simpa using hl)
 rwa [Nat.mul_one] at this
theorem q_ixz {x y : Operand} {T E : TypeId} {b : Option Addr} {n c : Nat} {i : Int} {kk : IntKind} {z : Value} {by_ : Nat} {cs : List Value} (hu : P.underlying T = some (.slice E)) (hi : Inf P E z 1 by_) (hx : ev ρ x = .slice b n c) (hy : ev ρ y = .int kk i) (hs : ∀ w, Inv base O w → Sl w b cs) (h0 : 0 ≤ i) (hlt : i.toNat < n) (hl : i.toNat < cs.length) :
  QT P base ⟨dst, .indexAddr T x y, t, p, af, g⟩ ρ O (elP b i.toNat) :=
 q_ix hu hi hx (by rw [hy, Int.toNat_of_nonneg h0]) hs hlt hl
theorem q_ld {x : Operand} {T : TypeId} {d : TypeDesc} {b : Option Addr} {i : Nat} {cs : List Value} {v : Value} (hu : P.underlying T = some d) (ha : aggB d = false) (hx : ev ρ x = elP b i)
  (hs : ∀ w, Inv base O w → Sl w b cs) (hv : cs[i]? = some v) : QT P base ⟨dst, .load T x, t, p, af, g⟩ ρ O v := fun w hI => by
 obtain ⟨hi, _⟩ := List.getElem?_eq_some_iff.1 hv
 obtain ⟨bk, o, rfl⟩ := (hs w hI).addr hi
 exact q_load_cell hu ha hx (fun w hI => (hs w hI).get hv) w hI
theorem q_ldK {x : Operand} {T : TypeId} {d : TypeDesc} {b : Option Addr} {i : Nat} {cs vs : List Value} {z : Value} {s by_ : Nat} (hu : P.underlying T = some d) (ha : aggB d = true) (hi : Inf P T z s by_) (hx : ev ρ x = elP b i) (hl : vs.length = s) (hpos : 0 < vs.length)
  (hs : ∀ w, Inv base O w → Sl w b cs) (hv : ∀ j (h : j < vs.length), cs[i + j]? = some vs[j]) : QT P base ⟨dst, .load T x, t, p, af, g⟩ ρ O (.agg vs.toArray) := fun w hI => by
 obtain ⟨h0, _⟩ := List.getElem?_eq_some_iff.1 (hv 0 hpos)
 obtain ⟨bk, o, rfl⟩ := (hs w hI).addr (i := i) (by omega)
 exact q_load_agg hu ha hi hx hl (fun w hI j hj => by have := (hs w hI).get (hv j hj); rwa [← Nat.add_assoc] at this) w hI
end
section
variable {P : Program} {r : Option Nat} {base : World} {n : Nat} {ρ : Env} {O : List Item} {K : Env → List Item → Prop} {d : Nat} {t : TypeId} {p : String} {af : Array Edge} {g : Option (Nat × Bool)}
theorem l_st (i : Nat) {T E : TypeId} {x y : Operand} {b : Option Addr} {j c k : Nat} {v : Value} {vs cs : List Value} {z : Value} {s by_ : Nat} (hi : Inf P T z s by_) (hx : ev ρ x = elP b j) (hy : ev ρ y = v) (hv : v.cells = vs.toArray) (hl : vs.length = s) (ho : (vs.all oneB) = true) (hs : 0 < vs.length)
  (hO : O[i]? = some (rowI b c E k cs)) (hr : j + vs.length ≤ cs.length)
  (h : K ρ (O.set i (rowI b c E k (putL cs j vs)))) : LT P r base n ⟨none, .store T x y, t, p, af, g⟩ ρ O K := fun a w M ds ha hI => by
 obtain ⟨bk, o, rfl⟩ := (hI.left.slOf (List.mem_of_getElem? hO)).addr (i := j) (by omega)
 exact l_store_row i hi hx hy hv hl ho hO hr h a w M ds ha hI
end
def pairV (q : Int × Int) : Value := .agg #[.int .i64 q.1, .int .i64 q.2]
theorem run_equal_int {P : Program} {T : TypeId} {k : IntKind} (h : P.underlying T = some (.int k)) (d : Nat) (a b : Int) (w : World) : (Op.equalIn (d + 1) T (.int .i64 a) (.int .i64 b)).run P w = .ok (a == b) w := by
 rw [Op.equalIn]
 simp [run_underlying' h]
structure Pair2 (P : Program) (kt : TypeId) (f1 f2 : Field) : Prop where
 under : P.underlying kt = some (.struct #[f1, f2])
 u1 : P.underlying f1.type = some (.int .i64)
 u2 : P.underlying f2.type = some (.int .i64)
 o1 : f1.offset = 0
 o2 : f2.offset = 1
 n1 : f1.name ≠ "_"
 n2 : f2.name ≠ "_"
 held : P.stoodInHeld kt = false
theorem Pair2.equal {P : Program} {kt : TypeId} {f1 f2 : Field} (h : Pair2 P kt f1 f2) (a b : Int × Int) (w : World) : (Op.equal kt (pairV a) (pairV b)).run P w = .ok (decide (a = b)) w := by
 show (Op.equalIn (9998 + 1 + 1) kt (pairV a) (pairV b)).run P w = _
 rw [Op.equalIn]
 have hp1 : ∀ (c : Int × Int), (part f1.type #[.int .i64 c.1, .int .i64 c.2] f1.offset).run P w = .ok (.int .i64 c.1) w := fun c => by
  simp [part, run_isAgg' h.u1, aggB, h.o1]
 have hp2 : ∀ (c : Int × Int), (part f2.type #[.int .i64 c.1, .int .i64 c.2] f2.offset).run P w = .ok (.int .i64 c.2) w := fun c => by
  simp [part, run_isAgg' h.u2, aggB, h.o2]
 simp [run_underlying' h.under, pairV, h.held, h.n1, h.n2, hp1, hp2, run_equal_int h.u1, run_equal_int h.u2]
 by_cases e1 : a.1 = b.1
 ·by_cases e2 : a.2 = b.2
  ·have : a = b := by cases a; cases b; simp_all
   simp [e1, e2, this]
  ·have : ¬ a = b := fun e => e2 (by rw [e])
   simp [e1, e2, this]
 ·have : ¬ a = b := fun e => e1 (by rw [e])
  simp [e1, this]
theorem KeyOk.pair {P : Program} {kt : TypeId} {f1 f2 : Field} (h : Pair2 P kt f1 f2) : KeyOk P kt pairV where
 check := fun e a w => by
  show (Instr.checkKey e (9998 + 1 + 1) kt _).run P w = _
  rw [Instr.checkKey]
  have hp1 : ∀ (c : Int × Int), (part f1.type #[.int .i64 c.1, .int .i64 c.2] f1.offset).run P w = .ok (.int .i64 c.1) w := fun c => by
   simp [part, run_isAgg' h.u1, aggB, h.o1]
  have hp2 : ∀ (c : Int × Int), (part f2.type #[.int .i64 c.1, .int .i64 c.2] f2.offset).run P w = .ok (.int .i64 c.2) w := fun c => by
   simp [part, run_isAgg' h.u2, aggB, h.o2]
  have hk : ∀ (tt : TypeId) (v : Int), P.underlying tt = some (.int .i64) → (Instr.checkKey e (9998 + 1) tt (.int .i64 v)).run P w = .ok () w := fun tt v hu => by
   rw [Instr.checkKey]; simp [run_underlying' hu]
  simp [run_underlying' h.under, pairV, h.n1, h.n2, hp1, hp2, hk _ _ h.u1, hk _ _ h.u2]
 find := fun es ks a w hks => by
  have ask : ∀ (es : List MapEntry) (ks : List (Int × Int)) (i : Nat), es.map (·.key) = ks.map pairV → (Instr.findAsking kt (pairV a) es i).run P w = .ok (findL a ks es i) w := by
   intro es
   induction es with
   | nil => intro ks i h; cases ks <;> simp_all [Instr.findAsking, findL]
   | cons e es ih =>
    intro ks i hh
    cases ks with
    | nil => simp at hh
    | cons b ks =>
     simp only [List.map_cons, List.cons.injEq] at hh
     simp only [Instr.findAsking, hh.1, Sem.run_bind, h.equal, Result.andThen_ok, findL]
     by_cases e : a = b
     ·simp [e]
     ·simp [e, ih ks (i + 1) hh.2]
  have key : ∀ (es : List MapEntry) (ks : List (Int × Int)), es.map (·.key) = ks.map pairV → Instr.findNow (.struct #[f1, f2]) (pairV a) es 0 = some (findL a ks es 0) ∨ Instr.findNow (.struct #[f1, f2]) (pairV a) es 0 = none := by
   intro es ks hh
   cases es with
   | nil => left; cases ks <;> simp_all [Instr.findNow, findL]
   | cons e es => right; simp [Instr.findNow, Instr.sameNow]
  rcases key es ks hks with hk | hk
  ·simp [Instr.findKey, run_underlying' h.under, hk]
  ·simp [Instr.findKey, run_underlying' h.under, hk, ask es ks 0 hks]
@[reducible] def aD (n : Nat) : Option Addr := some ⟨n, 0, none⟩
@[reducible] def nS : Value := .slice none 0 0
@[reducible] def vI (v : Int) : Value := .int .i64 v
section
variable {P : Program} {r : Option Nat} {base : World} {n : Nat} {ρ : Env} {O : List Item} {ops : Array Oper} {l : List Oper} {K : Env → List Item → Prop} {t : TypeId} {p : String} {af : Array Edge}
theorem TO.qm {d : Nat} {x : Operand} {v : Value} (h : ev ρ x = v) (hk : TO P r base n ops l K (upd ρ d v) O) (hn : Nat.blt d n = true := by rfl) : TO P r base n ops (⟨some d, .move x, t, p, af, none⟩ :: l) K ρ O := TO.q (q_move h) hk hn
theorem TO.qa {d : Nat} {x : Operand} {v : Value} (h : ev ρ x = v) (hk : TO P r base n ops l K (upd ρ d v) O) (hn : Nat.blt d n = true := by rfl) : TO P r base n ops (⟨some d, .assign x, t, p, af, none⟩ :: l) K ρ O := TO.q (q_assign h) hk hn
theorem mG {α : Type} {l : List α} {a : α} (i : Nat) (h : l[i]? = some a) : a ∈ l := List.mem_of_getElem? h
theorem Sub.ca {O' O : List Item} (D : List Item) (h : ∀ a, Lx.cnt a (O' ++ D) = Lx.cnt a O := by intro a; simp only [itms, oI, List.set_cons_zero, List.set_cons_succ, putL, List.cons_append, List.nil_append, List.append_nil, List.append_assoc, List.map_append, List.map_cons, List.map_nil, cnt_append, cnt_cons, cnt_nil, vI, nS, aD] <;> omega) : Sub O' O := Sub.cnt D h
theorem TO.gq {d j tj : Nat} {want : Bool} {op : Op} {v : Value} (hj : (ops[j]?).bind (·.dst) = some tj) (hw : ρ tj = .bool want) (h : QT P base ⟨some d, op, t, p, af, some (j, want)⟩ ρ O v) (hk : TO P r base n ops l K (upd ρ d v) O) (hn : Nat.blt d n = true := by rfl) : TO P r base n ops (⟨some d, op, t, p, af, some (j, want)⟩ :: l) K ρ O := TO.gd rfl hj hw (LT.oq rfl hn h hk)
theorem CallT.un (is : List Nat) {f : FuncId} {args : List Value} {A B O : List Item} {R : Value → List Item → Prop} (h : CallT P base f args A R) (hA : pickL is O = A := by rfl) (hB : restL is O = B := by simp only [restL, dropI, itms, oI, List.set_cons_zero, List.set_cons_succ, putL, List.cons_append, List.nil_append, List.append_nil]; rfl) : CallT P base f args O (fun v O' => ∃ A', O' = A' ++ B ∧ R v A') :=
 CallT.under h (by subst hA hB; exact ⟨_, pick_perm is O, List.Sublist.refl _⟩)
end
end Go.Lx


namespace Go.Lx
open Go.Lib
theorem dec_small {u : Nat} (h : u < 10) : decDigits u = [UInt8.ofNat (48 + u)] := by rw [decDigits, dif_pos h]
theorem dec_big {u : Nat} (h : ¬ u < 10) : decDigits u = decDigits (u / 10) ++ [UInt8.ofNat (48 + u % 10)] := by rw [decDigits, dif_neg h]
theorem dec_ne_nil (u : Nat) : decDigits u ≠ [] := by
 by_cases h : u < 10
 ·rw [dec_small h]; simp
 ·rw [dec_big h]; simp
theorem digit_toNat {k : Nat} (h : k < 10) : (UInt8.ofNat (48 + k)).toNat = 48 + k := by
 rw [UInt8.toNat_ofNat']; omega
theorem dec_digit (u : Nat) : ∀ b ∈ decDigits u, 48 ≤ b.toNat ∧ b.toNat < 58 := by
 induction u using Nat.strongRecOn with
 | _ u ih =>
  by_cases h : u < 10
  ·rw [dec_small h]; intro b hb; rw [List.mem_singleton] at hb; subst hb; rw [digit_toNat h]; omega
  ·rw [dec_big h]
   intro b hb
   rcases List.mem_append.1 hb with hb | hb
   ·exact ih (u / 10) (by omega) b hb
   ·rw [List.mem_singleton] at hb; subst hb; rw [digit_toNat (by omega)]; omega
theorem dec_inj : ∀ (a b : Nat), decDigits a = decDigits b → a = b := by
 intro a
 induction a using Nat.strongRecOn with
 | _ a ih =>
  intro b h
  by_cases ha : a < 10
  ·by_cases hb : b < 10
   ·rw [dec_small ha, dec_small hb] at h
    have := congrArg UInt8.toNat (List.cons.inj h).1
    rw [digit_toNat ha, digit_toNat hb] at this
    omega
   ·rw [dec_small ha, dec_big hb] at h
    have h1 := congrArg List.length h
    have h2 : 0 < (decDigits (b / 10)).length := List.length_pos_iff.2 (dec_ne_nil _)
    simp only [List.length_append, List.length_cons, List.length_nil] at h1; omega
  ·by_cases hb : b < 10
   ·rw [dec_big ha, dec_small hb] at h
    have h1 := congrArg List.length h
    have h2 : 0 < (decDigits (a / 10)).length := List.length_pos_iff.2 (dec_ne_nil _)
    simp only [List.length_append, List.length_cons, List.length_nil] at h1; omega
   ·rw [dec_big ha, dec_big hb] at h
    obtain ⟨h1, h2⟩ := List.append_inj' h rfl
    have e1 := ih (a / 10) (by omega) (b / 10) h1
    have e2 := congrArg UInt8.toNat (List.cons.inj h2).1
    rw [digit_toNat (by omega), digit_toNat (by omega)] at e2
    omega
def tailK : List Nat → List UInt8
 | [] => []
 | n :: l => 32 :: (decDigits n ++ tailK l)
def keyK (a : Nat) (l : List Nat) : List UInt8 := decDigits a ++ tailK l
theorem tailK_append (l : List Nat) (n : Nat) : tailK (l ++ [n]) = tailK l ++ 32 :: decDigits n := by
 induction l with
 | nil => simp [tailK]
 | cons a l ih => simp [tailK, ih]
theorem dec_no_blank (u : Nat) : (32 : UInt8) ∉ decDigits u := fun h => by have := dec_digit u 32 h; simp at this
theorem split_blank : ∀ {x y : List UInt8} {a b : List Nat}, (32 : UInt8) ∉ x → (32 : UInt8) ∉ y → x ++ tailK a = y ++ tailK b → x = y ∧ tailK a = tailK b
 | [], [], a, b, _, _, h => ⟨rfl, by simpa using h⟩
 | [], c :: y, a, b, _, hy, h => by
  cases a with
  | nil => simp [tailK] at h
  | cons n a => simp only [tailK, List.nil_append, List.cons_append, List.cons.injEq] at h; exact (hy (by simp [← h.1])).elim
 | c :: x, [], a, b, hx, _, h => by
  cases b with
  | nil => simp [tailK] at h
  | cons n b => simp only [tailK, List.nil_append, List.cons_append, List.cons.injEq] at h; exact (hx (by simp [h.1])).elim
 | c :: x, c' :: y, a, b, hx, hy, h => by
  simp only [List.cons_append, List.cons.injEq] at h
  simp only [List.mem_cons, not_or] at hx hy
  obtain ⟨h1, h2⟩ := split_blank hx.2 hy.2 h.2
  exact ⟨by rw [h.1, h1], h2⟩
theorem tailK_inj : ∀ {l m : List Nat}, tailK l = tailK m → l = m
 | [], [], _ => rfl
 | [], b :: m, h => by simp [tailK] at h
 | a :: l, [], h => by simp [tailK] at h
 | a :: l, b :: m, h => by
  simp only [tailK, List.cons.injEq, true_and] at h
  obtain ⟨h1, h2⟩ := split_blank (dec_no_blank a) (dec_no_blank b) h
  rw [dec_inj a b h1, tailK_inj h2]
theorem keyK_inj {a b : Nat} {l m : List Nat} (h : keyK a l = keyK b m) : a = b ∧ l = m := by
 obtain ⟨h1, h2⟩ := split_blank (dec_no_blank a) (dec_no_blank b) h
 exact ⟨dec_inj a b h1, tailK_inj h2⟩
theorem dec_len : ∀ (k u : Nat), u < 10 ^ (k + 1) → (decDigits u).length ≤ k + 1
 | 0, u, h => by rw [dec_small (by simpa using h)]; simp
 | k + 1, u, h => by
  by_cases h0 : u < 10
  ·rw [dec_small h0]; simp
  ·rw [dec_big h0, List.length_append]
   have := dec_len k (u / 10) (by rw [Nat.pow_succ] at h; omega)
   simp only [List.length_cons, List.length_nil]
   omega
end Go.Lx


namespace Go.Lx
open Go.RowKit Go.Sort
def tzTab : List Int := Lib.deBruijn64tab.map fun n : Nat => (n : Int)
class Tab (P : Program) (base : World) : Prop where
 tab : ∀ w, Below base.heap.size base w → Lib.TabIs P w "internal/strconv.uint64pow10" .u64 Lib.pow10Tab
 tz : P.globalNamed "math/bits.deBruijn64tab" = none ∨ ∀ w, Below base.heap.size base w → Lib.TabIs P w "math/bits.deBruijn64tab" .u8 tzTab
theorem Tab.of {P : Program} {w : World} (h : Lib.TabIs P w "internal/strconv.uint64pow10" .u64 Lib.pow10Tab) (h2 : P.globalNamed "math/bits.deBruijn64tab" = none ∨ Lib.TabIs P w "math/bits.deBruijn64tab" .u8 tzTab) : Tab P w := ⟨fun w' hb => Lib.tabBelow_of_tabIs h w' hb, h2.imp id fun h w' hb => Lib.tabBelow_of_tabIs h w' hb⟩
theorem Tab.is {P : Program} {w : World} (h : Tab P w) : Lib.TabIs P w "internal/strconv.uint64pow10" .u64 Lib.pow10Tab := h.tab w (Below.refl _ _)
theorem Inv.tab {P : Program} {base : World} {O : List Item} {w : World} (hI : Inv base O w) [t : Tab P base] : Tab P w := .of (t.tab w hI.below) (t.tz.imp id fun h => h w hI.below)
theorem Inv.grow {base : World} {O : List Item} {w : World} (h : Inv base O w) (k : Nat) (os : Array Obj) : Inv base O (Go.Sort.grow (w.drewN k) os) := by
 refine Inv.new (N := []) h rfl rfl rfl ?_ ?_ (by simp) (by simp) (by simp)
 ·show w.heap.size ≤ (w.heap ++ os).size
  simp
 ·intro b hb
  show (w.heap ++ os)[b]? = w.heap[b]?
  rw [Array.getElem?_append_left hb]
theorem CallT.drop {P : Program} {base : World} {f : FuncId} {args : List Value} {O : List Item} {R R' : Value → List Item → Prop} (h : CallT P base f args O R) (hr : ∀ v O', R v O' → ∃ O'', Sub O'' O' ∧ R' v O'') : CallT P base f args O R' :=
 fun w M hI => (h w M hI).mono fun _ _ ⟨v, O', h1, h2, h3⟩ => let ⟨O'', hs, h4⟩ := hr v O' h3; ⟨v, O'', h1, h2.subp hs.app, h4⟩
theorem laidVars_tail {P : Program} {W : World} {x : String × DataW Unit} {rest : List (String × DataW Unit)} {ps : List MemPlace} (h : DataW.LaidVars P W (x :: rest) ps) : ∃ q, DataW.LaidVars P W rest q := by
 obtain ⟨g', t', cs, fuel, p, q, hg', ht', hvar, hd, hr, _⟩ := h
 exact ⟨q, hr⟩
theorem tabIs_of_vars {P : Program} {W : World} {name : String} {k : IntKind} {zs : List Int} {D : DataW Unit} {rest : List (String × DataW Unit)} {ps : List MemPlace} {g : Nat} {t e : TypeId} {n : Nat} (hD : D = Lib.tabData k zs)
  (hg : P.globalNamed name = some g) (hty : (P.globals[g]?).map (·.type) = some t) (ht : P.underlying t = some (.array n e)) (he : P.underlying e = some (.int k)) (hce : P.cellsOf e = 1) (hct : P.cellsOf t = n)
  (h : DataW.LaidVars P W ((name, D) :: rest) ps) : Lib.TabIs P W name k zs := by
 subst hD
 obtain ⟨g', t', cs, fuel, p, q, hg', ht', hvar, hd, _, _⟩ := h
 obtain rfl := Option.some.inj (hg.symm.trans hg')
 obtain rfl := Option.some.inj (hty.symm.trans ht')
 unfold Lib.TabIs
 rw [hvar, ← Lib.cells_of_tab ht he hce hct hd]
def DigA (n : Nat) (cs : Array Value) : Prop := ∀ j (h : j < (cells8 (Lib.decDigits n)).length), cs[j]? = some (cells8 (Lib.decDigits n))[j]
theorem formatT {P : Program} {f : FuncId} {base : World} {b T n : Nat} {Z : Array Value} (hZ : ∀ j, j < 24 → Z[j]? = some (.int .u8 0)) (h100 : 1 ≤ n) (hn : n < 1000000000000)
  (hc : ∀ (blk off cap u : Nat) (d : Array UInt8) (w : World), Holds (fun (b : UInt8) => Value.int .u8 (b.toNat : Int)) w blk off d → u < 10 ^ d.size → u < 18446744073709551616 → d.size < 4611686018427387904 →
   Calls P f #[.slice (some ⟨blk, off, none⟩) d.size cap, .int .u64 u] w fun e w' => e = .returned (.tuple #[]) ∧ ∃ (n v' : Nat) (dk : Array UInt8), w' = (putRow (fun (b : UInt8) => Value.int .u8 (b.toNat : Int)) w blk off dk).drewN n ∧ Lib.FmtInv d.size u 0 v' dk) :
  CallT P base f [.slice (some ⟨b, 0, none⟩) (Lib.nDigits n) 24, .int .u64 (n : Int)] [objI b (.cells Z T (0, 0))] (fun v O' => v = .tuple #[] ∧ ∃ cs, O' = [objI b (.cells cs T (0, 0))] ∧ DigA n cs) := by
 intro w M hI
 have hb : w.heap[b]? = some (.cells Z T (0, 0)) := hI.holds _ (List.mem_cons_self ..)
 have hnd : Lib.nDigits n ≤ 20 := by have := Lib.numDigits_eq n h100 (by omega); split at this <;> omega
 have hH : Holds (fun (b : UInt8) => Value.int .u8 (b.toNat : Int)) w b 0 (Array.replicate (Lib.nDigits n) 0) := fun j hj => by
  have hj' : j < Lib.nDigits n := by simpa using hj
  refine ⟨?_, ?_⟩
  ·rw [getElem!_pos _ j hj]
   simp [World.cell?, hb, hZ j (by omega)]
  ·simp [World.frozen?, hb]
 have := hc b 0 24 n (Array.replicate (Lib.nDigits n) 0) w hH (by rw [Array.size_replicate]; exact Lib.lt_pow_nDigits n) (by omega) (by rw [Array.size_replicate]; omega)
 rw [Array.size_replicate] at this
 refine this.mono ?_
 rintro e w' ⟨rfl, k, v', dk, rfl, hF⟩
 obtain ⟨D, hD⟩ : ∃ D, D = putCells (fun (b : UInt8) => Value.int .u8 (b.toNat : Int)) 0 dk Z := ⟨_, rfl⟩
 have hb0 : (putRow (fun (b : UInt8) => Value.int .u8 (b.toNat : Int)) w b 0 dk).heap[b]? = some (.cells D T (0, 0)) := by
  show (w.heap.modify b _)[b]? = _
  rw [Array.getElem?_modify, if_pos rfl, hb, hD]; rfl
 have ho : ∀ x, x ≠ b → (putRow (fun (b : UInt8) => Value.int .u8 (b.toNat : Int)) w b 0 dk).heap[x]? = w.heap[x]? := fun x hx => by
  show (w.heap.modify b _)[x]? = _
  rw [Array.getElem?_modify, if_neg (fun e => hx e.symm)]
 have h1 : ∀ j, j < dk.size → (putRow (fun (b : UInt8) => Value.int .u8 (b.toNat : Int)) w b 0 dk).cell? ⟨b, 0 + j, none⟩ = some (.int .u8 (dk[j]!.toNat : Int)) := fun j hj => cell?_putRow _ w b 0 _ dk hH (by rw [hF.size, Array.size_replicate]) j hj
 have hs : (putRow (fun (b : UInt8) => Value.int .u8 (b.toNat : Int)) w b 0 dk).heap.size = w.heap.size := by simp
 have e1 : (putRow (fun (b : UInt8) => Value.int .u8 (b.toNat : Int)) w b 0 dk).os = w.os := rfl
 have e2 : (putRow (fun (b : UInt8) => Value.int .u8 (b.toNat : Int)) w b 0 dk).tape = w.tape := rfl
 have e3 : (putRow (fun (b : UInt8) => Value.int .u8 (b.toNat : Int)) w b 0 dk).output = w.output := rfl
 generalize putRow (fun (b : UInt8) => Value.int .u8 (b.toNat : Int)) w b 0 dk = w1 at *
 have hI1 : Inv base ([objI b (.cells D T (0, 0))] ++ M) w1 := by
  refine hI.stepAt (i := 0) (it := objI b (.cells Z T (0, 0))) (it' := objI b (.cells D T (0, 0))) rfl e1 e2 e3 (by omega) ?_ hb0 (fun x hx => .inl hx) (by simp [objI])
  intro x hx hne
  exact ho x (fun e => hne (by simp [objI, e]))
 refine ⟨_, [objI b (.cells D T (0, 0))], rfl, hI1.same rfl rfl rfl rfl, rfl, D, rfl, ?_⟩
 ·intro j hj
  have hj' : j < (Lib.decDigits n).length := by simpa [cells8] using hj
  have hj2 : j < dk.size := by rw [hF.size]; rwa [Lib.decDigits_length] at hj'
  have h3 : D[j]? = some (.int .u8 (dk[j]!.toNat : Int)) := by have := h1 j hj2; simpa [World.cell?, hb0] using this
  rw [h3, ← Lib.row_is_numeral hF j hj']
  simp [cells8]
section
variable {P : Program} {r : Option Nat} {base : World} {n : Nat} {ρ : Env} {O : List Item} {dst : Option Nat} {d : Nat} {t : TypeId} {p : String} {af : Array Edge} {g : Option (Nat × Bool)} {K : Env → List Item → Prop}
theorem q_sliceA {T E : TypeId} {x y : Operand} {b m h by_ : Nat} {z : Value} (hu : P.underlying T = some (.array m E)) (hi : Inf P E z 1 by_) (hx : ev ρ x = .pointer (some ⟨b, 0, none⟩)) (hy : ev ρ y = .int .i64 (h : Int)) (hh : h ≤ m) (h0 : 1 ≤ h) :
  QT P base ⟨dst, .slice T x none (some y) none, t, p, af, g⟩ ρ O (.slice (some ⟨b, 0, none⟩) h m) := fun w hI => by
 have e1 : (h : Int) ≤ (m : Int) := by omega
 have e2 : (0 : Int) ≤ (h : Int) := by omega
 simp [execOp, Instr.sliceAt, Instr.sureAddr, hx, hy, run_underlying' hu, run_sizeOf' hi, Instr.sliceBounds, Instr.sliceBound, asIntOf, e1, e2, add_off, hh]
theorem l_appendA {T U E A : TypeId} {b : Option Addr} {m c l ca k by_ : Nat} {x y : Operand} {z : Value} {cs new : List Value} {arr : Array Value} (i j : Nat)
  (hu : P.underlying T = some (.slice E)) (hxu : P.underlying U = some (.slice E)) (hi : Inf P E z 1 by_) (hz : z.cells.size = 1)
  (hx : ev ρ x = .slice b m c) (hy : ev ρ y = .slice (some ⟨k, 0, none⟩) l ca) (hO : O[j]? = some (rowI b c E 1 cs)) (hl : cs.length = m) (hs : new.length = l)
  (hA : O[i]? = some (objI k (.cells arr A (0, 0)))) (hn' : ∀ q (h : q < new.length), arr[q]? = some new[q]) (hone : (new.all oneB) = true)
  (hsz : (m + l) * by_ ≤ 70368744177664) (hby : by_ ≤ 1000000) (hsz' : 0 < by_)
  (h : ∀ b' c', K (upd ρ d (.slice b' (m + l) c')) (O.set j (rowI b' c' E 1 (cs ++ new)))) (hn : Nat.blt d n = true := by rfl) :
  LT P r base n ⟨some d, .call ⟨.builtin .append, #[x, y], #[T, U]⟩, t, p, af, g⟩ ρ O K :=
 LT.of_run hn fun w M hI => by
  have hsrc : Src P base (O ++ M) 1 l (.slice (some ⟨k, 0, none⟩) l ca) new := ⟨by omega, fun w => by simp [Builtin.lenOf], fun w hI => firstCells_run (fun q hq => ⟨⟨k, 0, none⟩, rfl, rfl, by
   have hb : w.heap[k]? = some (.cells arr A (0, 0)) := hI.holds _ (List.mem_of_getElem? (at_app hA))
   simp [World.cell?, hb, hn' q hq]⟩) (by omega) (fun e => by cases e)⟩
  obtain ⟨b', c', w', hr, hI'⟩ := run_append (ty := t) hu hxu (.inl ⟨_, rfl⟩) hi hz (at_app hO) (by simpa using hl) (by decide) hsrc hone hsz hby hsz' hI
  rw [set_app hO] at hI'
  refine ⟨_, w', _, ?_, hI', h b' c'⟩
  simp [execOp, resolve, hx, hy, invoke, builtin, hr]
end
end Go.Lx


namespace Go.Lx
open Go.RowKit
section
variable {P : Program} {r : Option Nat} {base : World} {n : Nat} {ρ : Env} {O : List Item} {Q : Post}
theorem T.cut1 {x : Code} (K : Env → List Item → Prop) (h : T P r base n x (thn K Q) ρ O) (hk : ∀ ρ O, K ρ O → Q .normal ρ O) : T P r base n x Q ρ O :=
 h.mono fun e ρ O h => by cases e <;> first | exact hk ρ O h | exact h
variable {t : TypeId} {p : String} {af : Array Edge} {g : Option (Nat × Bool)} {dst : Option Nat}
theorem q_eqlNil {x y : Operand} {T E U : TypeId} {b : Option Addr} {n c : Nat} (hu : P.underlying T = some (.slice E)) (hx : ev ρ x = .slice b n c) (hy : ev ρ y = .slice none 0 0) : QT P base ⟨dst, .binOp .eql T x y U, t, p, af, g⟩ ρ O (.bool b.isNone) := fun w _ => by
 have h : (Op.equal T (.slice b n c) (.slice none 0 0)).run P w = .ok b.isNone w := by
  show (Op.equalIn (9999 + 1) T _ _).run P w = _
  rw [Op.equalIn]
  cases b <;> simp [run_underlying' hu]
 simp [execOp, hx, hy, eqGuard, binOp, h]
theorem wrap8 {x : Nat} (h : x < 256) : IntKind.u8.wrap (x : Int) = (x : Int) := by
 simp only [IntKind.wrap, IntKind.signed, IntKind.bits]
 simp
 omega
end
end Go.Lx


namespace Go.Lx
open Go.RowKit
section
variable {P : Program} {r : Option Nat} {base : World} {n : Nat} {ρ : Env} {O : List Item} {K' : Env → List Item → Prop} {d : Nat} {t : TypeId} {p : String} {af : Array Edge} {g : Option (Nat × Bool)}
end
end Go.Lx


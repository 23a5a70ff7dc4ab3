/- Contracts of functions of the program (DK, CoreW, CoreX, Plain, Part, Bfs, Tell, Law, Law2, Mat, Ord, Gre, All, DR, Myh, Rnd, Word, Wrd2, Bol, Dct, Can, Bol2, Bol3, Bol4, Bol5, Bol6, Bol7, Bol8, BolA, BolC, BolD, BolE, WtA, WtB, WtK, WtC, Facts, Kit): what each call answers and that it leaves memory as it was. Conditions: those each theorem names. -/
import Derived.Test.YtnmfefmhfkhihaaDoorCoreV
import Derived.Test.YtnmfefmhfkhihaaDoorRows
set_option linter.unusedSectionVars false
set_option linter.unusedSimpArgs false
set_option linter.unusedVariables false
set_option linter.unnecessarySimpa false
namespace Go.Lx
open Go.RowKit
set_option linter.unusedVariables false
def packI (φ : Prop) (L : List Item) : Item where
  blocks := L.flatMap Item.blocks
  P w := φ ∧ ∀ it ∈ L, it.P w
  loc w w' h := fun hp => ⟨hp.1, fun it hi => it.loc w w' (fun b hb => h b (List.mem_flatMap.2 ⟨it, hi, hb⟩)) (hp.2 it hi)⟩
theorem Inv.pack {base w : World} {φ : Prop} {L M : List Item} (hφ : φ) (h : Inv base (L ++ M) w) : Inv base (packI φ L :: M) w :=
  ⟨h.below, fun it hi => (List.mem_cons.1 hi).elim (fun e => e ▸ ⟨hφ, fun x hx => h.holds x (List.mem_append_left _ hx)⟩) fun hm => h.holds it (List.mem_append_right _ hm),
   fun it hi b hb => (List.mem_cons.1 hi).elim (fun e => by
      subst e
      obtain ⟨x, hx, hbx⟩ := List.mem_flatMap.1 hb
      exact h.fresh x (List.mem_append_left _ hx) b hbx) fun hm => h.fresh it (List.mem_append_right _ hm) b hb,
   by have := h.nodup; rwa [List.flatMap_append] at this⟩
section
variable {P : Program} {r : Option Nat} {base : World} {n : Nat} {c : Code} {Q : Post} {ρ : Env} {φ : Prop} {L M : List Item} {f : FuncId} {args : List Value}
theorem T.pack (hφ : φ) (h : T P r base n c Q ρ (packI φ L :: M)) : T P r base n c Q ρ (L ++ M) := fun a w N D hM ha hi =>
  h a w N D hM ha (by rw [List.append_assoc] at hi; exact Inv.pack hφ hi)
theorem CallT.packR {O : List Item} {R R' : Value → List Item → Prop} (h : CallT P base f args O R) (hr : ∀ v O', R v O' → ∃ φ L M, φ ∧ O' = L ++ M ∧ R' v (packI φ L :: M)) : CallT P base f args O R' := fun w N hI =>
  (h w N hI).mono fun _ _ ⟨v, O', h1, h2, h3⟩ => by
    obtain ⟨φ, L, M, hφ, rfl, hR⟩ := hr v O' h3
    exact ⟨v, packI φ L :: M, h1, Inv.pack (M := M ++ N) hφ (by rw [← List.append_assoc]; exact h2), hR⟩
end
structure DK where
  nb : Option Addr
  nc : Nat
  fb : Option Addr
  fc : Nat
  qs : List Rec
abbrev dC (d : DFA) (k : DK) : List Value := dfaCells d k.nb k.nc k.fb k.fc
abbrev dV (d : DFA) (k : DK) : Value := .agg (dC d k).toArray
abbrev At (w : World) (d : DFA) (k : DK) : Prop := DfaAt w d k.nb (vals k.qs) k.fb
def dI (II Bo I : TypeId) (d : DFA) (k : DK) : Item := packI (nums k.qs = d.next) ([rowI k.nb k.nc II 1 (vals k.qs), rowI k.fb k.fc Bo 1 (bools d.final)] ++ itms I k.qs)
theorem Inv.at {base w : World} {O : List Item} {II Bo I : TypeId} {d : DFA} {k : DK} (hI : Inv base O w) (h : dI II Bo I d k ∈ O) : At w d k := by
  have h0 := hI.holds _ h
  have g : ∀ it ∈ [rowI k.nb k.nc II 1 (vals k.qs), rowI k.fb k.fc Bo 1 (bools d.final)] ++ itms I k.qs, it.P w := h0.2
  refine ⟨rowP.sl (g (rowI k.nb k.nc II 1 (vals k.qs)) (by simp)), ?_, rowP.sl (g (rowI k.fb k.fc Bo 1 (bools d.final)) (by simp))⟩
  rw [← h0.1]
  refine ⟨by simp, fun i x hx => ?_⟩
  rw [List.getElem?_map] at hx
  obtain ⟨q, hq, rfl⟩ := Option.map_eq_some_iff.1 hx
  refine ⟨q.b, q.c, by rw [List.getElem?_map, hq]; rfl, ?_⟩
  have : (Rec.itm I q).P w := g _ (List.mem_append_right _ (List.mem_map_of_mem (List.mem_of_getElem? hq)))
  exact rowP.sl this
theorem rows_rec {w : World} : ∀ {vs : List Value} {rs : List (List Int)}, RowsR w vs rs → ∃ qs : List Rec, vals qs = vs ∧ nums qs = rs
  | [], [], _ => ⟨[], rfl, rfl⟩
  | [], _ :: _, h => absurd h.1 (by simp)
  | _ :: _, [], h => absurd h.1 (by simp)
  | v :: vs, x :: rs, h => by
    obtain ⟨b, c, h1, h2⟩ := h.get (i := 0) (by simp)
    obtain ⟨qs, e1, e2⟩ := rows_rec (vs := vs) (rs := rs) ⟨by simpa using h.1, fun i y hy => by simpa using h.2 (i + 1) y (by simpa using hy)⟩
    refine ⟨⟨b, c, x⟩ :: qs, ?_, by simp [e2]⟩
    simp only [List.map_cons, e1, Rec.val]
    simp at h1
    rw [h1]
theorem DfaAt.dk {w : World} {d : DFA} {nb : Option Addr} {vs : List Value} {fb : Option Addr} (nc fc : Nat) (h : DfaAt w d nb vs fb) : ∃ k : DK, At w d k ∧ dfaCells d nb nc fb fc = dC d k := by
  obtain ⟨qs, rfl, e⟩ := rows_rec h.rows
  exact ⟨⟨nb, nc, fb, fc, qs⟩, h, rfl⟩
theorem CallT.dk {P : Program} {base : World} {f : FuncId} {args : List Value} {O : List Item} {II Bo I : TypeId} {D : DFA} {g : Value → Value} (h : CallT P base f args O fun v N => ∃ nb' nc' fb' fc' qs, v = g (.agg (dfaCells D nb' nc' fb' fc').toArray) ∧ N = [rowI nb' nc' II 1 (vals qs), rowI fb' fc' Bo 1 (bools D.final)] ++ itms I qs ∧ nums qs = D.next) :
    CallT P base f args O fun v N => ∃ k : DK, v = g (dV D k) ∧ N = [dI II Bo I D k] :=
  h.packR fun v O' hR => by
    obtain ⟨nb, nc, fb, fc, qs, rfl, rfl, hq⟩ := hR
    exact ⟨nums qs = D.next, _, [], hq, (List.append_nil _).symm, ⟨nb, nc, fb, fc, qs⟩, rfl, rfl⟩
theorem Inv.atB {base w : World} {O : List Item} {d : DFA} {k : DK} (hI : Inv base O w) (h : At base d k) : At w d k := hI.dfa h
end Go.Lx


namespace Go.Lx
open Go.RowKit
set_option linter.unusedVariables false
section
variable {P : Program} {base : World} {ρ : Env} {O : List Item} {dst : Option Nat} {t : TypeId} {p : String} {af : Array Edge} {g : Option (Nat × Bool)}
end
structure WtM where
  n : Nat
  k : DK
  k2 : DK
  b : Option Addr
  c : Nat
def WtM.z : WtM := ⟨0, ⟨none, 0, none, 0, []⟩, ⟨none, 0, none, 0, []⟩, none, 0⟩
end Go.Lx


namespace Go.Lx
open Go.RowKit
set_option linter.unusedVariables false
theorem emask_of {e : Edge} (hb : Region.binds .any e = true) : ∀ {l : List Edge}, e ∈ l → (emask l).testBit e.on = true
  | a :: l, h => by
    rw [emask, Nat.testBit_or, Bool.or_eq_true]
    rcases List.mem_cons.1 h with rfl | h
    · exact .inl (by rw [if_pos hb, Nat.one_shiftLeft, Nat.testBit_two_pow]; simp)
    · exact .inr (emask_of hb h)
def rdyM (ops : Array Oper) (d j : Nat) : Bool := !d.testBit j && Nat.beq (omaskAt ops j &&& d) (omaskAt ops j)
def freeM (ops : Array Oper) (d i : Nat) : Bool := match ops[i]? with
  | none => false
  | some oi => (List.range ops.size).all fun j => Nat.beq j i || d.testBit j || (omaskAt ops j).testBit i || match ops[j]? with
    | some oj => oi.apart ops oj
    | none => true
def walkF (ops : Array Oper) (tail tail2 : List Nat) : List (Nat × Nat) → Nat → Bool
  | [], d => (List.range ops.size).all fun j => !rdyM ops d j
  | (i, 0) :: l, d => (waitB ops tail i && freeM ops d i && Nat.blt i ops.size && rdyM ops d i) && walkF ops tail tail2 l (d ||| 1 <<< i)
  | (i, 3) :: l, d => (waitB ops tail2 i && freeM ops d i && Nat.blt i ops.size && rdyM ops d i) && walkF ops tail tail2 l (d ||| 1 <<< i)
  | (i, _) :: l, d => (Nat.blt i ops.size && rdyM ops d i && (List.range ops.size).all fun j => Nat.beq j i || !rdyM ops d j) && walkF ops tail tail2 l (d ||| 1 <<< i)
def Agree (ops : Array Oper) (listed : Array Bool) (d : Nat) : Prop := listed.size = ops.size ∧ ∀ k, listed.getD k false = d.testBit k
theorem Agree.start (ops : Array Oper) : Agree ops (Array.replicate ops.size false) 0 := ⟨by simp, fun k => by
  rw [Nat.zero_testBit, Array.getD_eq_getD_getElem?, Array.getElem?_replicate]
  split <;> rfl⟩
theorem Agree.set {ops : Array Oper} {listed : Array Bool} {d i : Nat} (h : Agree ops listed d) (hi : i < ops.size) : Agree ops (listed.setIfInBounds i true) (d ||| 1 <<< i) := ⟨by simpa using h.1, fun k => by
  rw [Nat.testBit_or, Nat.one_shiftLeft, Nat.testBit_two_pow, ← h.2 k]
  by_cases e : i = k
  · subst e
    have : i < listed.size := by rw [h.1]; exact hi
    simp [this]
  · rw [getD_set_ne false e, decide_eq_false e, Bool.or_false]⟩
theorem Agree.ready {ops : Array Oper} {listed : Array Bool} {d j : Nat} (h : Agree ops listed d) (hj : j < ops.size) : j ∈ Region.ready .any ops listed ↔ rdyM ops d j = true := by
  have e1 : listed.getD j true = d.testBit j := by rw [← h.2 j]; exact getD_lt (by rw [h.1]; exact hj) _ _
  have ho : ops[j]? = some ops[j] := Array.getElem?_eq_getElem hj
  have hm : omaskAt ops j = emask ops[j].after.toList := by unfold omaskAt; rw [ho]
  rw [mem_ready, e1]
  unfold rdyM
  rw [Bool.and_eq_true, Bool.not_eq_true', Nat.beq_eq, hm]
  refine and_congr_right fun _ => ?_
  constructor
  · rintro ⟨o, ho2, hall⟩
    rw [ho] at ho2; cases ho2
    refine Nat.eq_of_testBit_eq fun k => ?_
    rw [Nat.testBit_and]
    cases hk : (emask ops[j].after.toList).testBit k with
    | false => rfl
    | true =>
      obtain ⟨e, he, hb, rfl⟩ := emask_bit hk
      have := hall e (by simpa using he) hb
      rw [h.2] at this
      rw [this]; rfl
  · intro he
    refine ⟨_, ho, fun e hmem hb => ?_⟩
    have hk := emask_of hb (l := ops[j].after.toList) (by simpa using hmem)
    rw [h.2]
    rw [← he, Nat.testBit_and, Bool.and_eq_true] at hk
    exact hk.2
theorem ready_lt {ops : Array Oper} {listed : Array Bool} {j : Nat} (h : j ∈ Region.ready .any ops listed) : j < ops.size := by
  obtain ⟨_, o, ho, _⟩ := mem_ready.1 h
  exact (Array.getElem?_eq_some_iff.1 ho).1
theorem single_of {l : List Nat} {i : Nat} (hn : l.Nodup) (h : ∀ j, j ∈ l ↔ j = i) : l = [i] := by
  cases l with
  | nil => exact absurd ((h i).2 rfl) (by simp)
  | cons a l =>
    obtain rfl : a = i := (h a).1 (by simp)
    have h1 := (List.nodup_cons.1 hn).1
    cases l with
    | nil => rfl
    | cons b l =>
      have : b = a := (h b).1 (by simp)
      subst this
      exact absurd (by simp) h1
theorem ready_nodup (ops : Array Oper) (listed : Array Bool) : (Region.ready .any ops listed).Nodup := by
  unfold Region.ready
  exact List.nodup_range.filter _
theorem free_ok {ops : Array Oper} {listed : Array Bool} {d i : Nat} (h : Agree ops listed d) (hf : freeM ops d i = true) : Region.free .any ops listed i = true := by
  unfold freeM at hf
  unfold Region.free
  cases ho : ops[i]? with
  | none => rw [ho] at hf; cases hf
  | some oi =>
    rw [ho] at hf
    simp only at hf ⊢
    rw [List.all_eq_true] at hf ⊢
    intro j hj
    have hjs : j < ops.size := List.mem_range.1 hj
    have h1 := hf j hj
    have e1 : listed.getD j true = d.testBit j := by rw [← h.2 j]; exact getD_lt (by rw [h.1]; exact hjs) _ _
    have hoj : ops[j]? = some ops[j] := Array.getElem?_eq_getElem hjs
    rw [hoj] at h1 ⊢
    simp only [Bool.or_eq_true] at h1 ⊢
    rw [e1]
    rcases h1 with ((h1 | h1) | h1) | h1
    · exact .inl (.inl (by simpa using h1))
    · exact .inl (.inr h1)
    · obtain ⟨o, ho2, e, he, hb, hon⟩ := omaskAt_bit h1
      rw [hoj] at ho2; cases ho2
      exact .inr (.inl (Array.any_eq_true'.2 ⟨e, he, by rw [hb, hon]; simp⟩))
    · exact .inr (.inr h1)
theorem loud_ok {ops : Array Oper} {tail tail2 : List Nat} {i : Nat} {l : List (Nat × Nat)} {listed : Array Bool} {d : Nat} (h : Agree ops listed d) (ih : ∀ {listed : Array Bool} {d : Nat}, Agree ops listed d → walkF ops tail tail2 l d = true → walkB ops tail tail2 l listed = true) (hw : ((Nat.blt i ops.size && rdyM ops d i && (List.range ops.size).all fun j => Nat.beq j i || !rdyM ops d j) && walkF ops tail tail2 l (d ||| 1 <<< i)) = true) : ((Region.ready .any ops listed == [i]) && walkB ops tail tail2 l (listed.setIfInBounds i true)) = true := by
  simp only [Bool.and_eq_true, Nat.blt_eq, List.all_eq_true, Bool.or_eq_true, Nat.beq_eq, Bool.not_eq_true'] at hw
  obtain ⟨⟨⟨h1, h2⟩, h3⟩, h4⟩ := hw
  rw [Bool.and_eq_true]
  refine ⟨?_, ih (h.set h1) h4⟩
  rw [beq_iff_eq]
  refine single_of (ready_nodup _ _) fun j => ⟨fun hj => ?_, fun e => e ▸ (h.ready h1).2 h2⟩
  have hjs := ready_lt hj
  rcases h3 j (List.mem_range.2 hjs) with e | e
  · exact e
  · rw [(h.ready hjs).1 hj] at e; cases e
theorem walkF_ok {ops : Array Oper} {tail tail2 : List Nat} : ∀ {l : List (Nat × Nat)} {listed : Array Bool} {d : Nat}, Agree ops listed d → walkF ops tail tail2 l d = true → walkB ops tail tail2 l listed = true
  | [], listed, d, h, hw => by
    simp only [walkF, List.all_eq_true] at hw
    show (Region.ready .any ops listed).isEmpty = true
    cases hr : Region.ready .any ops listed with
    | nil => rfl
    | cons j r =>
      have hj : j ∈ Region.ready .any ops listed := by rw [hr]; simp
      have h1 := hw j (List.mem_range.2 (ready_lt hj))
      rw [(h.ready (ready_lt hj)).1 hj] at h1; cases h1
  | (i, 0) :: l, listed, d, h, hw => by
    simp only [walkF, Bool.and_eq_true, Nat.blt_eq] at hw
    obtain ⟨⟨⟨⟨h1, h2⟩, h3⟩, h4⟩, h5⟩ := hw
    simp only [walkB, Bool.and_eq_true]
    exact ⟨⟨⟨h1, free_ok h h2⟩, by simpa using (h.ready h3).2 h4⟩, walkF_ok (h.set h3) h5⟩
  | (i, 3) :: l, listed, d, h, hw => by
    simp only [walkF, Bool.and_eq_true, Nat.blt_eq] at hw
    obtain ⟨⟨⟨⟨h1, h2⟩, h3⟩, h4⟩, h5⟩ := hw
    simp only [walkB, Bool.and_eq_true]
    exact ⟨⟨⟨h1, free_ok h h2⟩, by simpa using (h.ready h3).2 h4⟩, walkF_ok (h.set h3) h5⟩
  | (i, 1) :: l, listed, d, h, hw => loud_ok h walkF_ok hw
  | (i, 2) :: l, listed, d, h, hw => loud_ok h walkF_ok hw
  | (i, m + 4) :: l, listed, d, h, hw => loud_ok h walkF_ok hw
def drawF (ops : Array Oper) (l : List (Nat × Nat)) : Bool := (Region.noSelect ops && noDeferB ops && Nat.beq l.length ops.size && (l.all fun q => (q.2 == 2 || !(tailOf l).contains q.1) && (q.2 == 2 || q.2 == 4 || !(tailOf2 l).contains q.1))) && walkF ops (tailOf l) (tailOf2 l) l 0
theorem drawF_ok {ops : Array Oper} {l : List (Nat × Nat)} (h : drawF ops l = true) : drawB ops l = true := by
  simp only [drawF, Bool.and_eq_true, Nat.beq_eq] at h
  obtain ⟨⟨⟨⟨h1, h2⟩, h3⟩, h4⟩, h5⟩ := h
  simp only [drawB, Bool.and_eq_true]
  exact ⟨⟨⟨⟨h1, h2⟩, by rw [h3]; simp⟩, h4⟩, walkF_ok (Agree.start ops) h5⟩
end Go.Lx


namespace Go.Lx
def rowOk (n : Nat) (r : List Int) : Bool := r.all fun x => decide (0 ≤ x) && decide (x < (n : Int))
def rowsE (L n : Nat) : List (List Int) → Nat
  | [] => 0
  | r :: rs => if r.length ≠ L then 2 else if rowOk n r = true then rowsE L n rs else 8
def checkD (d : DFA) : Nat :=
  if ¬ (0 ≤ d.vars ∧ d.vars ≤ 6) then 7
  else if d.next.length = 0 then 3
  else if 4096 < d.next.length then 4
  else if d.final.length ≠ d.next.length then 2
  else if d.start < 0 ∨ (d.next.length : Int) ≤ d.start then 8
  else rowsE (2 ^ d.vars.toNat) d.next.length d.next
theorem rowsE_at {L n : Nat} {rs : List (List Int)} {k : Nat} (hk : k < rs.length) : rowsE L n (rs.drop k) = if rs[k].length ≠ L then 2 else if rowOk n rs[k] = true then rowsE L n (rs.drop (k + 1)) else 8 := by
  rw [List.drop_eq_getElem_cons hk]; rfl
theorem rowsE_end {L n : Nat} {rs : List (List Int)} {k : Nat} (hk : rs.length ≤ k) : rowsE L n (rs.drop k) = 0 := by
  rw [List.drop_eq_nil_of_le hk]; rfl
theorem rowOk_step {n : Nat} {r : List Int} {j : Nat} (hj : j < r.length) (h : rowOk n (r.take j) = true) (h0 : ¬ r[j] < 0) (h1 : ¬ (n : Int) ≤ r[j]) : rowOk n (r.take (j + 1)) = true := by
  rw [List.take_succ_eq_append_getElem hj]
  simp only [rowOk, List.all_append, Bool.and_eq_true] at h ⊢
  refine ⟨h, ?_⟩
  simp; omega
theorem rowOk_bad {n : Nat} {r : List Int} {j : Nat} (hj : j < r.length) (h : r[j] < 0 ∨ (n : Int) ≤ r[j]) : ¬ rowOk n r = true := by
  intro hh
  simp only [rowOk, List.all_eq_true, Bool.and_eq_true, decide_eq_true_eq] at hh
  have := hh _ (List.getElem_mem hj)
  omega
theorem rowOk_full {n : Nat} {r : List Int} {j : Nat} (hj : r.length ≤ j) (h : rowOk n (r.take j) = true) : rowOk n r = true := by
  rwa [List.take_of_length_le hj] at h
structure Val (d : DFA) : Prop where
  v0 : 0 ≤ d.vars
  v6 : d.vars ≤ 6
  n0 : 0 < d.next.length
  fin : d.final.length = d.next.length
  s0 : 0 ≤ d.start
  s1 : d.start < (d.next.length : Int)
  len : ∀ r ∈ d.next, r.length = 2 ^ d.vars.toNat
  ok : ∀ r ∈ d.next, ∀ x ∈ r, 0 ≤ x ∧ x < (d.next.length : Int)
structure Valid (d : DFA) : Prop extends Val d where
  n4 : d.next.length ≤ 4096
instance {d : DFA} : Coe (Valid d) (Val d) := ⟨Valid.toVal⟩
theorem rowsE_zero {L n : Nat} : ∀ {rs : List (List Int)}, rowsE L n rs = 0 ↔ (∀ r ∈ rs, r.length = L) ∧ ∀ r ∈ rs, ∀ x ∈ r, 0 ≤ x ∧ x < (n : Int)
  | [] => by simp [rowsE]
  | r :: rs => by
    have ih := rowsE_zero (L := L) (n := n) (rs := rs)
    simp only [rowsE]
    by_cases h : r.length = L
    · by_cases h2 : rowOk n r = true
      · simp only [h, ne_eq, not_true_eq_false, if_false, h2, if_true, ih, List.mem_cons, forall_eq_or_imp, true_and]
        have h3 : ∀ x ∈ r, 0 ≤ x ∧ x < (n : Int) := by simpa [rowOk] using h2
        exact ⟨fun q => ⟨q.1, h3, q.2⟩, fun q => ⟨q.1, q.2.2⟩⟩
      · simp only [h, ne_eq, not_true_eq_false, if_false, h2]
        refine ⟨fun q => by simp at q, fun q => (h2 ?_).elim⟩
        have := q.2 r (by simp)
        simpa [rowOk] using this
    · simp only [ne_eq, h, not_false_eq_true, if_true]
      exact ⟨fun q => by simp at q, fun q => (h (q.1 r (by simp))).elim⟩
theorem checkD_zero {d : DFA} : checkD d = 0 ↔ Valid d := by
  unfold checkD
  constructor
  · intro h
    split at h; · cases h
    split at h; · cases h
    split at h; · cases h
    split at h; · cases h
    split at h; · cases h
    rename_i h1 h2 h3 h4 h5
    obtain ⟨h6, h7⟩ := rowsE_zero.1 h
    simp only [Classical.not_not] at h1 h4
    exact ⟨⟨h1.1, h1.2, by omega, h4, by omega, by omega, h6, h7⟩, by omega⟩
  · intro h
    rw [if_neg (by have := h.v0; have := h.v6; simp; omega), if_neg (by have := h.n0; omega), if_neg (by have := h.n4; omega), if_neg (by simp [h.fin]), if_neg (by have := h.s0; have := h.s1; omega)]
    exact rowsE_zero.2 ⟨h.len, h.ok⟩
theorem Val.width {d : DFA} (h : Val d) : 2 ^ d.vars.toNat ≤ 64 :=
  Nat.le_trans (Nat.pow_le_pow_right (by omega) (show d.vars.toNat ≤ 6 by have := h.v0; have := h.v6; omega)) (by decide)
theorem Val.bound {d : DFA} (h : Val d) : ∀ r ∈ d.next, r.length < 9223372036854775807 := fun r hr => by
  have := h.len r hr; have := h.width; omega
end Go.Lx


namespace Go.Lx
set_option linter.unusedVariables false
section
variable {α : Type} [DecidableEq α]
def ix (x : α) : List α → Nat
  | [] => 0
  | k :: ks => if x = k then 0 else ix x ks + 1
theorem ix_lt {x : α} : ∀ {ks : List α}, x ∈ ks → ix x ks < ks.length
  | k :: ks, h => by
    simp only [ix]
    split
    · simp
    · rename_i e
      have := ix_lt ((List.mem_cons.1 h).resolve_left e)
      simp; omega
theorem ix_get {x : α} : ∀ {ks : List α}, x ∈ ks → ks[ix x ks]? = some x
  | k :: ks, h => by
    simp only [ix]
    split
    · rename_i e; simp [e]
    · rename_i e
      simpa using ix_get ((List.mem_cons.1 h).resolve_left e)
theorem ix_inj {x y : α} {ks : List α} (hx : x ∈ ks) (hy : y ∈ ks) (h : ix x ks = ix y ks) : x = y := by
  have h1 := ix_get hx
  rw [h, ix_get hy] at h1
  exact (Option.some.inj h1).symm
theorem ix_append_left {x : α} {ms : List α} : ∀ {ks : List α}, x ∈ ks → ix x (ks ++ ms) = ix x ks
  | k :: ks, h => by
    simp only [List.cons_append, ix]
    split
    · rfl
    · rename_i e; rw [ix_append_left ((List.mem_cons.1 h).resolve_left e)]
theorem ix_append_right {x : α} {ms : List α} : ∀ {ks : List α}, x ∉ ks → ix x (ks ++ ms) = ks.length + ix x ms
  | [], _ => by simp
  | k :: ks, h => by
    simp only [List.mem_cons, not_or] at h
    simp only [List.cons_append, ix, h.1, if_false, ix_append_right h.2, List.length_cons]
    omega
def add (ks : List α) (k : α) : List α := if k ∈ ks then ks else ks ++ [k]
def dd (l : List α) : List α := l.foldl add []
theorem mem_add {ks : List α} {k x : α} : x ∈ add ks k ↔ x ∈ ks ∨ x = k := by
  unfold add
  split
  · rename_i h
    exact ⟨.inl, fun h' => h'.elim id (fun e => e ▸ h)⟩
  · simp
theorem add_nodup {ks : List α} {k : α} (h : ks.Nodup) : (add ks k).Nodup := by
  unfold add
  split
  · exact h
  · rename_i hk
    rw [List.nodup_append]
    refine ⟨h, by simp, fun a ha b hb e => ?_⟩
    simp at hb; subst hb; subst e; exact hk ha
theorem add_prefix (ks : List α) (k : α) : ks <+: add ks k := by
  unfold add
  split
  · exact List.prefix_refl _
  · exact List.prefix_append _ _
theorem foldl_prefix : ∀ (l ks : List α), ks <+: l.foldl add ks
  | [], ks => List.prefix_refl _
  | k :: l, ks => (add_prefix ks k).trans (foldl_prefix l (add ks k))
theorem dd_append (l m : List α) : dd (l ++ m) = m.foldl add (dd l) := by simp [dd]
theorem dd_snoc (l : List α) (k : α) : dd (l ++ [k]) = add (dd l) k := by simp [dd]
theorem mem_dd {l : List α} {x : α} : x ∈ dd l ↔ x ∈ l := by
  have : ∀ (l ks : List α), x ∈ l.foldl add ks ↔ x ∈ ks ∨ x ∈ l := by
    intro l
    induction l with
    | nil => intro ks; simp
    | cons k l ih => intro ks; rw [List.foldl_cons, ih, mem_add, List.mem_cons, or_assoc]
  rw [dd, this]; simp
theorem ix_prefix {ks ms : List α} (h : ks <+: ms) {x : α} (hx : x ∈ ks) : ix x ms = ix x ks := by
  obtain ⟨t, rfl⟩ := h
  exact ix_append_left hx
theorem look_zip {x : α} : ∀ (ks : List α) (i : Nat), lookL x (ks.zipIdx i) = if x ∈ ks then some (i + ix x ks) else none
  | [], i => by simp [lookL]
  | k :: ks, i => by
    simp only [List.zipIdx_cons, lookL]
    by_cases e : x = k
    · subst e; simp [ix]
    · rw [if_neg e, look_zip ks (i + 1)]
      by_cases h : x ∈ ks
      · simp [h, e, ix]; omega
      · simp [h, e]
theorem zipIdx_fst (ks : List α) (i : Nat) : (ks.zipIdx i).map Prod.fst = ks := by
  induction ks generalizing i with
  | nil => rfl
  | cons k ks ih => simp [List.zipIdx_cons]
end
def rowK (cs : List Nat) (r : List Int) : List Nat := r.map fun to => cs.getD to.toNat 0
def keyD (d : DFA) (cs : List Nat) (s : Nat) : List UInt8 := keyK (cs.getD s 0) (rowK cs (d.next.getD s []))
def keysD (d : DFA) (cs : List Nat) : List (List UInt8) := (List.range d.next.length).map (keyD d cs)
def refineF (d : DFA) (cs : List Nat) : List Nat := (keysD d cs).map fun k => ix k (dd (keysD d cs))
theorem dd_length {α : Type} [DecidableEq α] (l : List α) : (dd l).length ≤ l.length := by
  have : ∀ (l ks : List α), (l.foldl add ks).length ≤ ks.length + l.length := by
    intro l
    induction l with
    | nil => intro ks; simp
    | cons k l ih =>
      intro ks
      have h1 := ih (add ks k)
      have h2 : (add ks k).length ≤ ks.length + 1 := by unfold add; split <;> simp
      simp only [List.foldl_cons, List.length_cons]
      omega
  simpa [dd] using this l []
theorem rowK_length (cs : List Nat) (r : List Int) : (rowK cs r).length = r.length := List.length_map _
def beginF (d : DFA) : List Nat := (List.range d.next.length).map fun s => if d.final.getD s false ≠ d.final.getD 0 false then 1 else 0
def itF (d : DFA) : Nat → List Nat
  | 0 => beginF d
  | i + 1 => refineF d (itF d i)
theorem itF_length (d : DFA) (i : Nat) : (itF d i).length = d.next.length := by
  cases i <;> simp [itF, beginF, refineF, keysD]
theorem itF_stable {d : DFA} {i : Nat} (h : refineF d (itF d i) = itF d i) : ∀ m, i ≤ m → itF d m = itF d i := by
  intro m hm
  induction hm with
  | refl => rfl
  | step _ ih => rw [itF, ih, h]
def exN (tr : List UInt8 → Nat → List UInt8) (L : Nat) (start : List UInt8) : Nat → List (List UInt8)
  | 0 => [start]
  | s + 1 => ((List.range L).map (tr ((exN tr L start s).getD s []))).foldl add (exN tr L start s)
def exRow (tr : List UInt8 → Nat → List UInt8) (L : Nat) (ks : List (List UInt8)) (s : Nat) : List Int :=
  (List.range L).map fun x => ((ix (tr (ks.getD s []) x) ks : Nat) : Int)
theorem foldl_add_snoc {α : Type} [DecidableEq α] (f : Nat → α) (ks : List α) (x : Nat) : ((List.range (x + 1)).map f).foldl add ks = add (((List.range x).map f).foldl add ks) (f x) := by
  rw [List.range_succ, List.map_append, List.foldl_append]; rfl
theorem mem_foldl_add {α : Type} [DecidableEq α] {y : α} : ∀ (l ks : List α), y ∈ l.foldl add ks ↔ y ∈ ks ∨ y ∈ l
  | [], ks => by simp
  | k :: l, ks => by rw [List.foldl_cons, mem_foldl_add l, mem_add, List.mem_cons, or_assoc]
theorem prefix_getD {ks ms : List (List UInt8)} (h : ks <+: ms) {s : Nat} (hs : s < ks.length) : ms.getD s [] = ks.getD s [] := by
  obtain ⟨t, rfl⟩ := h
  rw [List.getD_eq_getElem?_getD, List.getD_eq_getElem?_getD, List.getElem?_append_left hs]
structure ExOk (tr : List UInt8 → Nat → List UInt8) (L : Nat) (ks : List (List UInt8)) (s : Nat) (rs : List (List Int)) : Prop where
  len : rs.length = s
  le : s ≤ ks.length
  row : ∀ i, i < s → rs[i]? = some (exRow tr L ks i)
  mem : ∀ i, i < s → ∀ x, x < L → tr (ks.getD i []) x ∈ ks
theorem exRow_prefix {tr : List UInt8 → Nat → List UInt8} {L : Nat} {ks ms : List (List UInt8)} (h : ks <+: ms) {s : Nat} (hs : s < ks.length) (hm : ∀ x, x < L → tr (ks.getD s []) x ∈ ks) : exRow tr L ms s = exRow tr L ks s := by
  unfold exRow
  apply List.map_congr_left
  intro x hx
  rw [prefix_getD h hs, ix_prefix h (hm x (List.mem_range.1 hx))]
theorem ExOk.snoc {tr : List UInt8 → Nat → List UInt8} {L : Nat} {ks ms : List (List UInt8)} {s : Nat} {rs : List (List Int)} {ys : List Int} (h : ExOk tr L ks s rs) (hp : ks <+: ms) (hs : s < ks.length) (hy : ys = exRow tr L ms s) (hm : ∀ x, x < L → tr (ms.getD s []) x ∈ ms) : ExOk tr L ms (s + 1) (rs ++ [ys]) := by
  have hle := hp.length_le
  refine ⟨by simp [h.len], by omega, fun i hi => ?_, fun i hi => ?_⟩
  · by_cases e : i = s
    · subst e; rw [List.getElem?_append_right (by rw [h.len]; exact Nat.le_refl _), h.len, hy]; simp
    · rw [List.getElem?_append_left (by rw [h.len]; omega), h.row i (by omega), exRow_prefix hp (by omega) (h.mem i (by omega))]
  · by_cases e : i = s
    · subst e; exact hm
    · intro x hx
      rw [prefix_getD hp (by omega)]
      exact hp.subset (h.mem i (by omega) x hx)
def undec (l : List UInt8) : Nat := l.foldl (fun a b => a * 10 + (b.toNat - 48)) 0
theorem undec_dec (u : Nat) : undec (Lib.decDigits u) = u := by
  induction u using Nat.strongRecOn with
  | _ u ih =>
    by_cases h : u < 10
    · rw [dec_small h]
      show 0 * 10 + ((UInt8.ofNat (48 + u)).toNat - 48) = u
      rw [digit_toNat h]; omega
    · rw [dec_big h, undec, List.foldl_append]
      have := ih (u / 10) (by omega)
      rw [undec] at this
      rw [this]
      show u / 10 * 10 + ((UInt8.ofNat (48 + u % 10)).toNat - 48) = u
      rw [digit_toNat (by omega)]; omega
def toN (d : DFA) (o x : Nat) : Nat := ((d.next.getD o []).getD x 0).toNat
def trD (d : DFA) (k : List UInt8) (x : Nat) : List UInt8 := Lib.decDigits (toN d (undec k) x)
def sucs (d : DFA) (o : Nat) : List Nat := (List.range (2 ^ d.vars.toNat)).map (toN d o)
def bfsN (d : DFA) : Nat → List Nat
  | 0 => [d.start.toNat]
  | s + 1 => if s < (bfsN d s).length then (sucs d ((bfsN d s).getD s 0)).foldl add (bfsN d s) else bfsN d s
def order (d : DFA) : List Nat := bfsN d d.next.length
def renum (d : DFA) : DFA where
  vars := d.vars
  start := 0
  next := (order d).map fun o => (sucs d o).map fun t => ((ix t (order d) : Nat) : Int)
  final := (order d).map fun o => d.final.getD o false
theorem Val.toN_lt {d : DFA} (hv : Val d) {o x : Nat} (ho : o < d.next.length) (hx : x < 2 ^ d.vars.toNat) : toN d o x < d.next.length ∧ ∃ h : o < d.next.length, ∃ hx' : x < d.next[o].length, d.next[o][x] = (toN d o x : Int) := by
  have hl : d.next[o].length = 2 ^ d.vars.toNat := hv.len _ (List.getElem_mem ho)
  have hx' : x < d.next[o].length := by omega
  have h1 := hv.ok _ (List.getElem_mem ho) _ (List.getElem_mem hx')
  have e : toN d o x = d.next[o][x].toNat := by simp [toN, ho, hx']
  exact ⟨by omega, ho, hx', by omega⟩
theorem nodup_bound : ∀ {n : Nat} {l : List Nat}, l.Nodup → (∀ x ∈ l, x < n) → l.length ≤ n
  | 0, l, _, hb => by
    cases l with
    | nil => simp
    | cons a l => exact absurd (hb a (by simp)) (by omega)
  | n + 1, l, h, hb => by
    by_cases hn : n ∈ l
    · have h1 := nodup_bound (n := n) (h.erase n) fun x hx => by
        have := (List.Nodup.mem_erase_iff h).1 hx
        have := hb x this.2
        omega
      rw [List.length_erase_of_mem hn] at h1
      omega
    · have := nodup_bound (n := n) h fun x hx => by
        have := hb x hx
        have : x ≠ n := fun e => hn (e ▸ hx)
        omega
      omega
theorem map_add {α β : Type} [DecidableEq α] [DecidableEq β] {f : α → β} (hf : ∀ a b, f a = f b → a = b) (ks : List α) (k : α) : (add ks k).map f = add (ks.map f) (f k) := by
  unfold add
  by_cases h : k ∈ ks
  · rw [if_pos h, if_pos (List.mem_map_of_mem h)]
  · rw [if_neg h, if_neg (fun hh => by obtain ⟨a, ha, e⟩ := List.mem_map.1 hh; exact h (hf _ _ e ▸ ha))]
    simp
theorem map_foldl_add {α β : Type} [DecidableEq α] [DecidableEq β] {f : α → β} (hf : ∀ a b, f a = f b → a = b) : ∀ (l ks : List α), (l.foldl add ks).map f = (l.map f).foldl add (ks.map f)
  | [], ks => rfl
  | k :: l, ks => by rw [List.foldl_cons, map_foldl_add hf l, map_add hf, List.map_cons, List.foldl_cons]
theorem exN_bfs (d : DFA) : ∀ (N : Nat), (∀ i, i < N → i < (exN (trD d) (2 ^ d.vars.toNat) (Lib.decDigits d.start.toNat) i).length) →
    exN (trD d) (2 ^ d.vars.toNat) (Lib.decDigits d.start.toNat) N = (bfsN d N).map Lib.decDigits
  | 0, _ => rfl
  | N + 1, h => by
    have ih := exN_bfs d N fun i hi => h i (by omega)
    have hN := h N (by omega)
    rw [ih, List.length_map] at hN
    rw [exN, ih, bfsN, if_pos hN, map_foldl_add dec_inj]
    congr 1
    rw [sucs, List.map_map]
    apply List.map_congr_left
    intro x _
    have e : ((bfsN d N).map Lib.decDigits).getD N [] = Lib.decDigits ((bfsN d N).getD N 0) := by
      simp [hN]
    rw [e, trD, undec_dec]; rfl
theorem bfsN_stable {d : DFA} {N : Nat} (h : (bfsN d N).length = N) : ∀ m, N ≤ m → bfsN d m = bfsN d N := by
  intro m hm
  induction hm with
  | refl => rfl
  | @step m hm ih =>
    have hm' : N ≤ m := hm
    rw [bfsN, ih, if_neg (by omega)]
theorem order_eq {d : DFA} {N : Nat} (h : (bfsN d N).length = N) (hn : N ≤ d.next.length) : order d = bfsN d N := bfsN_stable h _ hn
theorem dec_ix (os : List Nat) (t : Nat) : ix (Lib.decDigits t) (os.map Lib.decDigits) = ix t os := by
  induction os with
  | nil => rfl
  | cons o os ih =>
    simp only [List.map_cons, ix, ih]
    by_cases e : t = o
    · simp [e]
    · rw [if_neg e, if_neg (fun h => e (dec_inj _ _ h))]
theorem map_dec_inj : ∀ {a b : List Nat}, a.map Lib.decDigits = b.map Lib.decDigits → a = b
  | [], [], _ => rfl
  | [], _ :: _, h => by simp at h
  | _ :: _, [], h => by simp at h
  | x :: a, y :: b, h => by
    simp only [List.map_cons, List.cons.injEq] at h
    rw [dec_inj x y h.1, map_dec_inj h.2]
theorem ren_order {d : DFA} {os : List Nat} {N : Nat} (hen : ∀ i, i < N → i < (exN (trD d) (2 ^ d.vars.toNat) (Lib.decDigits d.start.toNat) i).length)
    (hks : exN (trD d) (2 ^ d.vars.toNat) (Lib.decDigits d.start.toNat) N = os.map Lib.decDigits) (hlen : (exN (trD d) (2 ^ d.vars.toNat) (Lib.decDigits d.start.toNat) N).length = N) (hle : os.length ≤ d.next.length) : os = order d ∧ os.length = N := by
  have h1 : os.length = N := by rw [← hlen, hks, List.length_map]
  have h2 : os = bfsN d N := map_dec_inj (by rw [← hks, exN_bfs d N hen])
  exact ⟨by rw [order_eq (N := N) (by rw [← h2]; exact h1) (by omega)]; exact h2, h1⟩
theorem ren_next {d : DFA} {os : List Nat} {N : Nat} {rs : List (List Int)} (hks : exN (trD d) (2 ^ d.vars.toNat) (Lib.decDigits d.start.toNat) N = os.map Lib.decDigits) (hE : ExOk (trD d) (2 ^ d.vars.toNat) (exN (trD d) (2 ^ d.vars.toNat) (Lib.decDigits d.start.toNat) N) N rs) (ho : os = order d) (hN : os.length = N) : rs = (renum d).next := by
  apply List.ext_getElem?
  intro i
  by_cases hi : i < N
  · rw [hE.row i hi, hks]
    have hi' : i < os.length := by omega
    have e : (os.map Lib.decDigits).getD i [] = Lib.decDigits os[i] := by simp [hi']
    simp only [renum, List.getElem?_map, ← ho, List.getElem?_eq_getElem hi', Option.map_some, exRow, e, trD, undec_dec, sucs, List.map_map]
    refine congrArg some (List.map_congr_left fun x _ => ?_)
    simp only [Function.comp_def, dec_ix]
  · rw [List.getElem?_eq_none (by rw [hE.len]; omega), List.getElem?_eq_none (by simp [renum, ← ho]; omega)]
def quoN (d : DFA) (cs : List Nat) : Nat → List (List Int) × List Bool
  | 0 => ([], [])
  | k + 1 => if cs.getD k 0 < (quoN d cs k).1.length then quoN d cs k else
      ((quoN d cs k).1 ++ [(rowK cs (d.next.getD k [])).map fun c : Nat => (c : Int)], (quoN d cs k).2 ++ [d.final.getD k false])
def quo (d : DFA) (cs : List Nat) : DFA where
  vars := d.vars
  start := ((cs.getD d.start.toNat 0 : Nat) : Int)
  next := (quoN d cs d.next.length).1
  final := (quoN d cs d.next.length).2
theorem quoN_len (d : DFA) (cs : List Nat) : ∀ k, (quoN d cs k).1.length = (quoN d cs k).2.length ∧ (quoN d cs k).1.length ≤ k
  | 0 => by simp [quoN]
  | k + 1 => by
    have ih := quoN_len d cs k
    rw [quoN]
    split
    · exact ⟨ih.1, by omega⟩
    · simp; omega
end Go.Lx


namespace Go.Lx
set_option linter.unusedVariables false
theorem snocInd {α : Type} {p : List α → Prop} (h0 : p []) (h1 : ∀ l x, p l → p (l ++ [x])) : ∀ l, p l := fun l => by
  rw [← List.reverse_reverse l]
  generalize l.reverse = m
  induction m with
  | nil => exact h0
  | cons a m ih => rw [List.reverse_cons]; exact h1 _ _ ih
abbrev letN (d : DFA) : Nat := 2 ^ d.vars.toNat
def runN (d : DFA) (s : Nat) (w : List Nat) : Nat := w.foldl (toN d) s
def finN (d : DFA) (s : Nat) : Bool := d.final.getD s false
def dst (d : DFA) (s t : Nat) (w : List Nat) : Prop := finN d (runN d s w) ≠ finN d (runN d t w)
def Wd (d : DFA) (w : List Nat) : Prop := ∀ x ∈ w, x < letN d
def code (w : List Nat) : Nat := w.foldl (fun a x => a * 65 + (x + 1)) 0
theorem code_snoc (w : List Nat) (x : Nat) : code (w ++ [x]) = code w * 65 + (x + 1) := by simp [code]
theorem runN_snoc (d : DFA) (s : Nat) (w : List Nat) (x : Nat) : runN d s (w ++ [x]) = toN d (runN d s w) x := by simp [runN]
theorem code_inj : ∀ (w u : List Nat), (∀ x ∈ w, x < 64) → (∀ x ∈ u, x < 64) → code w = code u → w = u := by
  refine snocInd ?_ ?_
  · refine snocInd (fun _ _ _ => rfl) ?_
    intro u y _ _ _ h
    rw [code_snoc] at h
    exact absurd h (by simp [code])
  · intro w x ih
    refine snocInd ?_ ?_
    · intro _ _ h
      rw [code_snoc] at h
      exact absurd h (by simp [code])
    · intro u y _ hw hu h
      rw [code_snoc, code_snoc] at h
      have hx := hw x (by simp)
      have hy := hu y (by simp)
      have e : x = y := by omega
      have := ih u (fun z hz => hw z (by simp [hz])) (fun z hz => hu z (by simp [hz])) (by omega)
      rw [this, e]
theorem code_len : ∀ (w u : List Nat), (∀ x ∈ w, x < 64) → (∀ x ∈ u, x < 64) → code w ≤ code u → w.length ≤ u.length := by
  refine snocInd (fun u _ _ _ => by simp) ?_
  intro w x ih
  refine snocInd ?_ ?_
  · intro _ _ h
    rw [code_snoc] at h
    simp [code] at h
  · intro u y _ hw hu h
    rw [code_snoc, code_snoc] at h
    have hx := hw x (by simp)
    have hy := hu y (by simp)
    have := ih u (fun z hz => hw z (by simp [hz])) (fun z hz => hu z (by simp [hz])) (by omega)
    simpa using this
structure IsLeast (d : DFA) (s t : Nat) (w : List Nat) : Prop where
  wd : Wd d w
  dst : dst d s t w
  le : ∀ u, Wd d u → Lx.dst d s t u → code w ≤ code u
def Tell (d : DFA) (s t : Nat) : Option (List Nat) → Prop
  | some w => IsLeast d s t w
  | none => ∀ u, Wd d u → ¬ dst d s t u
theorem Val.wd64 {d : DFA} (hv : Val d) {w : List Nat} (h : Wd d w) : ∀ x ∈ w, x < 64 := fun x hx => by
  have := h x hx; have := hv.width; unfold letN at *; omega
theorem Tell.unique {d : DFA} (hv : Val d) {s t : Nat} {a b : Option (List Nat)} (ha : Tell d s t a) (hb : Tell d s t b) : a = b := by
  cases a with
  | none =>
    cases b with
    | none => rfl
    | some w => exact absurd hb.dst (ha w hb.wd)
  | some u =>
    cases b with
    | none => exact absurd ha.dst (hb u ha.wd)
    | some w =>
      have h1 := ha.le w hb.wd hb.dst
      have h2 := hb.le u ha.wd ha.dst
      rw [code_inj u w (hv.wd64 ha.wd) (hv.wd64 hb.wd) (by omega)]
abbrev Stp := (Nat × Nat) × List Nat
def suc2 (d : DFA) (p : Nat × Nat) (x : Nat) : Nat × Nat := (toN d p.1 x, toN d p.2 x)
def pushS (d : DFA) (q : Stp) (a : List Stp) (x : Nat) : List Stp := if suc2 d q.1 x ∈ a.map Prod.fst then a else a ++ [(suc2 d q.1 x, q.2 ++ [x])]
def pushN (d : DFA) (q : Stp) (a : List Stp) : Nat → List Stp
  | 0 => a
  | x + 1 => pushS d q (pushN d q a x) x
def bq (d : DFA) (s t : Nat) : Nat → List Stp
  | 0 => [((s, t), [])]
  | i + 1 => pushN d ((bq d s t i).getD i ((0, 0), [])) (bq d s t i) (letN d)
structure BfsI (d : DFA) (s t i : Nat) (A : List Stp) : Prop where
  run : ∀ q ∈ A, Wd d q.2 ∧ q.1 = (runN d s q.2, runN d t q.2)
  mono : ∀ (j k : Nat) (qj qk : Stp), j < k → A[j]? = some qj → A[k]? = some qk → code qj.2 < code qk.2
  nd : (A.map Prod.fst).Nodup
  suc : ∀ j q, j < i → A[j]? = some q → ∀ x, x < letN d → ∃ q' ∈ A, q'.1 = suc2 d q.1 x ∧ code q'.2 ≤ code q.2 * 65 + (x + 1)
  top : ∀ q, A[i]? = some q → ∀ q' ∈ A, code q'.2 < code q.2 * 65 + 1
  first : ∃ q, A[0]? = some q ∧ q.1 = (s, t) ∧ q.2 = []
theorem BfsI.zero (d : DFA) (s t : Nat) : BfsI d s t 0 (bq d s t 0) := by
  refine ⟨?_, ?_, by simp [bq], fun j q h => absurd h (by omega), ?_, ⟨_, rfl, rfl, rfl⟩⟩
  · intro q hq
    simp only [bq, List.mem_singleton] at hq
    subst hq
    exact ⟨fun x hx => by simp at hx, rfl⟩
  · intro j k qj qk hjk _ hk
    simp only [bq] at hk
    have : k = 0 := by
      cases k with
      | zero => rfl
      | succ k => simp at hk
    omega
  · intro q hq q' hq'
    simp only [bq, List.mem_singleton] at hq'
    subst hq'
    simp [code]
structure BfsM (d : DFA) (s t i : Nat) (q : Stp) (x : Nat) (A : List Stp) : Prop where
  run : ∀ q ∈ A, Wd d q.2 ∧ q.1 = (runN d s q.2, runN d t q.2)
  mono : ∀ (j k : Nat) (qj qk : Stp), j < k → A[j]? = some qj → A[k]? = some qk → code qj.2 < code qk.2
  nd : (A.map Prod.fst).Nodup
  suc : ∀ j q, j < i → A[j]? = some q → ∀ x, x < letN d → ∃ q' ∈ A, q'.1 = suc2 d q.1 x ∧ code q'.2 ≤ code q.2 * 65 + (x + 1)
  suci : ∀ y, y < x → ∃ q' ∈ A, q'.1 = suc2 d q.1 y ∧ code q'.2 ≤ code q.2 * 65 + (y + 1)
  top : ∀ q' ∈ A, code q'.2 < code q.2 * 65 + (x + 1)
  at_ : A[i]? = some q
  first : ∃ q, A[0]? = some q ∧ q.1 = (s, t) ∧ q.2 = []
theorem BfsM.step {d : DFA} {s t i : Nat} {q : Stp} {x : Nat} {A : List Stp} (h : BfsM d s t i q x A) (hx : x < letN d) : BfsM d s t i q (x + 1) (pushS d q A x) := by
  have hq := List.mem_of_getElem? h.at_
  unfold pushS
  split
  · rename_i hin
    obtain ⟨q', hq', e⟩ := List.mem_map.1 hin
    refine ⟨h.run, h.mono, h.nd, h.suc, fun y hy => ?_, fun q' hq' => by have := h.top q' hq'; omega, h.at_, h.first⟩
    by_cases ey : y = x
    · subst ey; exact ⟨q', hq', e, by have := h.top q' hq'; omega⟩
    · exact h.suci y (by omega)
  · rename_i hout
    have hil : i < A.length := by have := List.getElem?_eq_some_iff.1 h.at_; exact this.1
    refine ⟨?_, ?_, ?_, ?_, ?_, ?_, ?_, ?_⟩
    · intro p hp
      rcases List.mem_append.1 hp with hp | hp
      · exact h.run p hp
      · simp only [List.mem_singleton] at hp
        subst hp
        obtain ⟨h1, h2⟩ := h.run q hq
        refine ⟨?_, ?_⟩
        · intro y hy
          rcases List.mem_append.1 hy with hy | hy
          · exact h1 y hy
          · simp only [List.mem_singleton] at hy; subst hy; exact hx
        · rw [runN_snoc, runN_snoc]; simp only [suc2, h2]
    · intro j k qj qk hjk hj hk
      by_cases ek : k < A.length
      · rw [List.getElem?_append_left (by omega)] at hj
        rw [List.getElem?_append_left ek] at hk
        exact h.mono j k qj qk hjk hj hk
      · rw [List.getElem?_append_right (by omega)] at hk
        have ek0 : k - A.length = 0 := by
          cases e : k - A.length with
          | zero => rfl
          | succ m => rw [e] at hk; simp at hk
        rw [ek0] at hk
        simp at hk
        subst hk
        rw [List.getElem?_append_left (by omega)] at hj
        show code qj.2 < code (q.2 ++ [x])
        rw [code_snoc]
        exact h.top qj (List.mem_of_getElem? hj)
    · rw [List.map_append, List.nodup_append]
      refine ⟨h.nd, by simp, fun a ha b hb e => ?_⟩
      simp at hb; subst hb; subst e; exact hout ha
    · intro j qj hj hq x hx
      rw [List.getElem?_append_left (by omega)] at hq
      obtain ⟨q', h1, h2⟩ := h.suc j qj hj hq x hx
      exact ⟨q', List.mem_append_left _ h1, h2⟩
    · intro y hy
      by_cases ey : y = x
      · subst ey; exact ⟨_, List.mem_append_right _ (List.mem_singleton.2 rfl), rfl, by rw [code_snoc]; exact Nat.le_refl _⟩
      · obtain ⟨q', h1, h2⟩ := h.suci y (by omega)
        exact ⟨q', List.mem_append_left _ h1, h2⟩
    · intro p hp
      rcases List.mem_append.1 hp with hp | hp
      · have := h.top p hp; omega
      · simp only [List.mem_singleton] at hp
        subst hp
        rw [code_snoc]; omega
    · rw [List.getElem?_append_left hil]; exact h.at_
    · obtain ⟨q0, h1, h2⟩ := h.first
      exact ⟨q0, by rw [List.getElem?_append_left (by omega)]; exact h1, h2⟩
theorem BfsI.mid {d : DFA} {s t i : Nat} {q : Stp} {A : List Stp} (h : BfsI d s t i A) (hq : A[i]? = some q) : ∀ x, x ≤ letN d → BfsM d s t i q x (pushN d q A x)
  | 0, _ => ⟨h.run, h.mono, h.nd, h.suc, fun y hy => absurd hy (by omega), h.top q hq, hq, h.first⟩
  | x + 1, hx => (BfsI.mid h hq x (by omega)).step (by omega)
theorem BfsI.step {d : DFA} (hv : Val d) {s t i : Nat} {q : Stp} (h : BfsI d s t i (bq d s t i)) (hq : (bq d s t i)[i]? = some q) : BfsI d s t (i + 1) (bq d s t (i + 1)) := by
  have hm := h.mid hq (letN d) (Nat.le_refl _)
  have e : bq d s t (i + 1) = pushN d q (bq d s t i) (letN d) := by
    rw [bq, List.getD_eq_getElem?_getD, hq]; rfl
  rw [e]
  have hw := hv.width
  refine ⟨hm.run, hm.mono, hm.nd, ?_, ?_, hm.first⟩
  · intro j qj hj hqj x hx
    by_cases ej : j = i
    · subst ej
      rw [hm.at_] at hqj
      cases hqj
      exact hm.suci x hx
    · exact hm.suc j qj (by omega) hqj x hx
  · intro q2 hq2 q' hq'
    have h1 := hm.mono i (i + 1) q q2 (by omega) hm.at_ hq2
    have h2 := hm.top q' hq'
    have h3 : letN d ≤ 64 := hw
    omega
theorem pushN_get {d : DFA} {q : Stp} {A : List Stp} {j : Nat} {p : Stp} (h : A[j]? = some p) : ∀ x, (pushN d q A x)[j]? = some p
  | 0 => h
  | x + 1 => by
    have ih := pushN_get (d := d) (q := q) h x
    rw [pushN, pushS]
    split
    · exact ih
    · rw [List.getElem?_append_left (List.getElem?_eq_some_iff.1 ih).1]; exact ih
theorem bq_get {d : DFA} {s t j : Nat} {p : Stp} {k i : Nat} (h : (bq d s t k)[j]? = some p) (hki : k ≤ i) : (bq d s t i)[j]? = some p := by
  induction hki with
  | refl => exact h
  | step _ ih => rw [bq]; exact pushN_get ih _
end Go.Lx


namespace Go.Lx
open Go.RowKit
set_option linter.unusedVariables false
structure QRec where
  p : Nat × Nat
  b : Option Addr
  c : Nat
  xs : List Nat
def QRec.cells (q : QRec) : List Value := [.int .i64 ((q.p.1 : Nat) : Int), .int .i64 ((q.p.2 : Nat) : Int), .slice q.b q.xs.length q.c]
def QRec.itm (E : TypeId) (q : QRec) : Item := rowI q.b q.c E 1 (byts q.xs)
def QRec.stp (q : QRec) : Stp := (q.p, q.xs)
abbrev qitms (E : TypeId) (rs : List QRec) : List Item := rs.map (QRec.itm E)
theorem runN_lt {d : DFA} (hv : Val d) {s : Nat} (hs : s < d.next.length) : ∀ w, Wd d w → runN d s w < d.next.length := by
  refine snocInd (fun _ => hs) ?_
  intro w x ih hw
  rw [runN_snoc]
  exact (hv.toN_lt (ih fun y hy => hw y (by simp [hy])) (hw x (by simp))).1
theorem pushN_wlen {d : DFA} {q : Stp} {m : Nat} (hq : q.2.length ≤ m) {A : List Stp} (h : ∀ r ∈ A, r.2.length ≤ m) : ∀ x, ∀ r ∈ pushN d q A x, r.2.length ≤ m + 1
  | 0, r, hr => by have := h r hr; omega
  | x + 1, r, hr => by
    rw [pushN, pushS] at hr
    split at hr
    · exact pushN_wlen hq h x r hr
    · rcases List.mem_append.1 hr with hr | hr
      · exact pushN_wlen hq h x r hr
      · rw [List.mem_singleton.1 hr]; simp; omega
theorem bq_wlen (d : DFA) (s t : Nat) : ∀ i, ∀ r ∈ bq d s t i, r.2.length ≤ i
  | 0, r, hr => by simp only [bq, List.mem_singleton] at hr; subst hr; simp
  | i + 1, r, hr => by
    rw [bq] at hr
    refine pushN_wlen ?_ (bq_wlen d s t i) _ r hr
    rw [List.getD_eq_getElem?_getD]
    cases e : (bq d s t i)[i]? with
    | none => simp
    | some p => exact bq_wlen d s t i p (List.mem_of_getElem? e)
theorem bq_succ {d : DFA} {s t i : Nat} {q : Stp} (hq : (bq d s t i)[i]? = some q) : bq d s t (i + 1) = pushN d q (bq d s t i) (letN d) := by
  rw [bq, List.getD_eq_getElem?_getD, hq]; rfl
end Go.Lx
namespace Go.Lx
open Go.RowKit
end Go.Lx


namespace Go.Lx
set_option linter.unusedVariables false
section
variable {α β : Type} [DecidableEq α] [DecidableEq β]
def nrm (l : List α) : List Nat := l.map fun k => ix k (dd l)
theorem nrm_length (l : List α) : (nrm l).length = l.length := List.length_map _
theorem nrm_get {l : List α} {i : Nat} {a : α} (h : l[i]? = some a) : (nrm l)[i]? = some (ix a (dd l)) := by
  rw [nrm, List.getElem?_map, h]; rfl
theorem nrm_inj {l : List α} {i j : Nat} {a b : α} (hi : l[i]? = some a) (hj : l[j]? = some b) : (nrm l)[i]? = (nrm l)[j]? ↔ a = b := by
  rw [nrm_get hi, nrm_get hj]
  refine ⟨fun h => ix_inj (mem_dd.2 (List.mem_of_getElem? hi)) (mem_dd.2 (List.mem_of_getElem? hj)) (Option.some.inj h), fun h => h ▸ rfl⟩
theorem dd_mem_snoc {l : List α} {a : α} (h : a ∈ l) : dd (l ++ [a]) = dd l := by
  rw [dd_snoc, add, if_pos (mem_dd.2 h)]
theorem dd_new_snoc {l : List α} {a : α} (h : a ∉ l) : dd (l ++ [a]) = dd l ++ [a] := by
  rw [dd_snoc, add, if_neg (fun hh => h (mem_dd.1 hh))]
theorem nrm_pairs : ∀ zs : List (α × β), (∀ p ∈ zs, ∀ q ∈ zs, p.1 = q.1 ↔ p.2 = q.2) →
    (dd (zs.map Prod.fst)).length = (dd (zs.map Prod.snd)).length ∧ ∀ p ∈ zs, ix p.1 (dd (zs.map Prod.fst)) = ix p.2 (dd (zs.map Prod.snd)) := by
  refine snocInd (fun _ => ⟨rfl, fun p hp => by simp at hp⟩) ?_
  intro zs z ih h
  obtain ⟨h1, h2⟩ := ih fun p hp q hq => h p (List.mem_append_left _ hp) q (List.mem_append_left _ hq)
  have hz : z ∈ zs ++ [z] := by simp
  have hmem : z.1 ∈ zs.map Prod.fst ↔ z.2 ∈ zs.map Prod.snd := by
    constructor
    · intro hm
      obtain ⟨p, hp, e⟩ := List.mem_map.1 hm
      exact List.mem_map.2 ⟨p, hp, ((h p (List.mem_append_left _ hp) z hz).1 e)⟩
    · intro hm
      obtain ⟨p, hp, e⟩ := List.mem_map.1 hm
      exact List.mem_map.2 ⟨p, hp, ((h p (List.mem_append_left _ hp) z hz).2 e)⟩
  simp only [List.map_append, List.map_cons, List.map_nil]
  by_cases hm : z.1 ∈ zs.map Prod.fst
  · rw [dd_mem_snoc hm, dd_mem_snoc (hmem.1 hm)]
    refine ⟨h1, fun p hp => ?_⟩
    rcases List.mem_append.1 hp with hp | hp
    · exact h2 p hp
    · simp only [List.mem_singleton] at hp
      subst hp
      obtain ⟨q, hq, e⟩ := List.mem_map.1 hm
      have e2 := (h q (List.mem_append_left _ hq) p hz).1 e
      rw [← e, ← e2]; exact h2 q hq
  · have hm2 : z.2 ∉ zs.map Prod.snd := fun hh => hm (hmem.2 hh)
    rw [dd_new_snoc hm, dd_new_snoc hm2]
    refine ⟨by simp [h1], fun p hp => ?_⟩
    rcases List.mem_append.1 hp with hp | hp
    · rw [ix_append_left (mem_dd.2 (List.mem_map_of_mem hp)), ix_append_left (mem_dd.2 (List.mem_map_of_mem hp))]
      exact h2 p hp
    · simp only [List.mem_singleton] at hp
      subst hp
      rw [ix_append_right (fun hh => hm (mem_dd.1 hh)), ix_append_right (fun hh => hm2 (mem_dd.1 hh)), h1]
      simp [ix]
theorem dd_finer : ∀ zs : List (α × β), (∀ p ∈ zs, ∀ q ∈ zs, p.1 = q.1 → p.2 = q.2) →
    (dd (zs.map Prod.snd)).length ≤ (dd (zs.map Prod.fst)).length ∧ ((dd (zs.map Prod.snd)).length = (dd (zs.map Prod.fst)).length → ∀ p ∈ zs, ∀ q ∈ zs, p.2 = q.2 → p.1 = q.1) := by
  refine snocInd (fun _ => ⟨Nat.le_refl _, fun _ p hp => by simp at hp⟩) ?_
  intro zs z ih h
  obtain ⟨h1, h2⟩ := ih fun p hp q hq => h p (List.mem_append_left _ hp) q (List.mem_append_left _ hq)
  have hz : z ∈ zs ++ [z] := by simp
  simp only [List.map_append, List.map_cons, List.map_nil]
  by_cases hm : z.1 ∈ zs.map Prod.fst
  · obtain ⟨q, hq, e⟩ := List.mem_map.1 hm
    have e2 := h q (List.mem_append_left _ hq) z hz e
    have hm2 : z.2 ∈ zs.map Prod.snd := List.mem_map.2 ⟨q, hq, e2⟩
    rw [dd_mem_snoc hm, dd_mem_snoc hm2]
    refine ⟨h1, fun he p hp p' hp' ee => ?_⟩
    have h2' := h2 he
    have lift : ∀ p ∈ zs ++ [z], ∃ p0 ∈ zs, p0.1 = p.1 ∧ p0.2 = p.2 := fun p hp => by
      rcases List.mem_append.1 hp with hp | hp
      · exact ⟨p, hp, rfl, rfl⟩
      · simp only [List.mem_singleton] at hp; subst hp; exact ⟨q, hq, e, e2⟩
    obtain ⟨a, ha, a1, a2⟩ := lift p hp
    obtain ⟨b, hb, b1, b2⟩ := lift p' hp'
    rw [← a1, ← b1]; exact h2' a ha b hb (by rw [a2, b2, ee])
  · rw [dd_new_snoc hm]
    by_cases hm2 : z.2 ∈ zs.map Prod.snd
    · rw [dd_mem_snoc hm2]
      refine ⟨by simp; omega, fun he => ?_⟩
      simp at he; omega
    · rw [dd_new_snoc hm2]
      refine ⟨by simp; omega, fun he p hp p' hp' ee => ?_⟩
      have h2' := h2 (by simpa using he)
      rcases List.mem_append.1 hp with gp | gp
      · rcases List.mem_append.1 hp' with gp' | gp'
        · exact h2' p gp p' gp' ee
        · have e := List.mem_singleton.1 gp'
          exact (hm2 (List.mem_map.2 ⟨p, gp, by rw [ee, e]⟩)).elim
      · have e := List.mem_singleton.1 gp
        rcases List.mem_append.1 hp' with gp' | gp'
        · exact (hm2 (List.mem_map.2 ⟨p', gp', by rw [← ee, e]⟩)).elim
        · rw [e, List.mem_singleton.1 gp']
theorem zip_ends : ∀ {l : List α} {m : List β}, l.length = m.length → (l.zip m).map Prod.fst = l ∧ (l.zip m).map Prod.snd = m
  | [], [], _ => ⟨rfl, rfl⟩
  | a :: l, b :: m, h => by
    obtain ⟨h1, h2⟩ := zip_ends (l := l) (m := m) (by simpa using h)
    simp [h1, h2]
theorem zip_get {l : List α} {m : List β} (h : l.length = m.length) {p : α × β} (hp : p ∈ l.zip m) : ∃ i : Nat, l[i]? = some p.1 ∧ m[i]? = some p.2 := by
  obtain ⟨i, hi⟩ := List.getElem?_of_mem hp
  refine ⟨i, ?_, ?_⟩
  · have := congrArg (Option.map Prod.fst) hi
    rw [← List.getElem?_map, (zip_ends h).1] at this; simpa using this
  · have := congrArg (Option.map Prod.snd) hi
    rw [← List.getElem?_map, (zip_ends h).2] at this; simpa using this
theorem nrm_congr {l : List α} {m : List β} (hl : l.length = m.length) (h : ∀ (i j : Nat) (a b : α) (a' b' : β), l[i]? = some a → l[j]? = some b → m[i]? = some a' → m[j]? = some b' → (a = b ↔ a' = b')) : nrm l = nrm m ∧ (dd l).length = (dd m).length := by
  have h0 := nrm_pairs (l.zip m) fun p hp q hq => by
    obtain ⟨i, a1, a2⟩ := zip_get hl hp
    obtain ⟨j, b1, b2⟩ := zip_get hl hq
    exact h i j _ _ _ _ a1 b1 a2 b2
  rw [(zip_ends hl).1, (zip_ends hl).2] at h0
  refine ⟨?_, h0.1⟩
  apply List.ext_getElem?
  intro i
  by_cases hi : i < l.length
  · have hi2 : i < m.length := by omega
    rw [nrm_get (List.getElem?_eq_getElem hi), nrm_get (List.getElem?_eq_getElem hi2)]
    have : (l[i], m[i]) ∈ l.zip m := by
      apply List.mem_of_getElem? (i := i)
      rw [List.getElem?_zip_eq_some]
      exact ⟨List.getElem?_eq_getElem hi, List.getElem?_eq_getElem hi2⟩
    exact congrArg some (h0.2 _ this)
  · rw [List.getElem?_eq_none (by rw [nrm_length]; omega), List.getElem?_eq_none (by rw [nrm_length]; omega)]
end
def dif (d : DFA) : Nat → Nat → Nat → Bool
  | 0, s, t => finN d s != finN d t
  | k + 1, s, t => dif d k s t || (List.range (letN d)).any fun x => dif d k (toN d s x) (toN d t x)
theorem dif_iff (d : DFA) : ∀ k s t, dif d k s t = true ↔ ∃ u, Wd d u ∧ u.length ≤ k ∧ dst d s t u
  | 0, s, t => by
    simp only [dif, bne_iff_ne]
    constructor
    · exact fun h => ⟨[], fun x hx => by simp at hx, Nat.le_refl _, h⟩
    · rintro ⟨u, _, hl, h⟩
      have : u = [] := List.eq_nil_of_length_eq_zero (by omega)
      subst this; exact h
  | k + 1, s, t => by
    simp only [dif, Bool.or_eq_true, List.any_eq_true, List.mem_range, dif_iff d k]
    constructor
    · rintro (⟨u, h1, h2, h3⟩ | ⟨x, hx, u, h1, h2, h3⟩)
      · exact ⟨u, h1, by omega, h3⟩
      · refine ⟨x :: u, fun y hy => ?_, by simp; omega, h3⟩
        rcases List.mem_cons.1 hy with rfl | hy
        · exact hx
        · exact h1 y hy
    · rintro ⟨u, h1, h2, h3⟩
      cases u with
      | nil => exact .inl ⟨[], h1, by simp, h3⟩
      | cons x u => exact .inr ⟨x, h1 x (by simp), u, fun y hy => h1 y (by simp [hy]), by simpa using h2, h3⟩
theorem toN_get {d : DFA} (hv : Val d) {s x : Nat} (hs : s < d.next.length) (hx : x < letN d) : toN d s x < d.next.length := (hv.toN_lt hs hx).1
theorem keyD_iff {d : DFA} (hv : Val d) {cs : List Nat} (hcl : cs.length = d.next.length) {s t : Nat} (hs : s < d.next.length) (ht : t < d.next.length) :
    keyD d cs s = keyD d cs t ↔ cs.getD s 0 = cs.getD t 0 ∧ ∀ x, x < letN d → cs.getD (toN d s x) 0 = cs.getD (toN d t x) 0 := by
  have hls : (d.next.getD s []).length = letN d := by simp [hs]; exact hv.len _ (List.getElem_mem hs)
  have hlt : (d.next.getD t []).length = letN d := by simp [ht]; exact hv.len _ (List.getElem_mem ht)
  have row : ∀ s, (d.next.getD s []).length = letN d → ∀ x, x < letN d → (rowK cs (d.next.getD s []))[x]? = some (cs.getD (toN d s x) 0) := by
    intro s hl x hx
    have hx' : x < (d.next.getD s []).length := by omega
    have e : (d.next.getD s []).getD x 0 = (d.next.getD s [])[x] := by rw [List.getD_eq_getElem?_getD, List.getElem?_eq_getElem hx']; rfl
    rw [rowK, List.getElem?_map, List.getElem?_eq_getElem hx', toN, e]
    rfl
  constructor
  · intro h
    obtain ⟨h1, h2⟩ := keyK_inj h
    refine ⟨h1, fun x hx => ?_⟩
    have a := row s hls x hx
    rw [h2, row t hlt x hx] at a
    exact (Option.some.inj a).symm
  · rintro ⟨h1, h2⟩
    unfold keyD
    rw [h1]
    congr 1
    apply List.ext_getElem?
    intro x
    by_cases hx : x < letN d
    · rw [row s hls x hx, row t hlt x hx, h2 x hx]
    · rw [List.getElem?_eq_none (by rw [rowK_length]; omega), List.getElem?_eq_none (by rw [rowK_length]; omega)]
theorem refineF_nrm (d : DFA) (cs : List Nat) : refineF d cs = nrm (keysD d cs) := rfl
theorem keysD_get {d : DFA} {cs : List Nat} {s : Nat} (hs : s < d.next.length) : (keysD d cs)[s]? = some (keyD d cs s) := by simp [keysD, hs]
theorem beginF_get {d : DFA} {s : Nat} (hs : s < d.next.length) : (beginF d)[s]? = some (if finN d s ≠ finN d 0 then 1 else 0) := by
  simp [beginF, hs, finN]
theorem getD_of {l : List Nat} {i a : Nat} (h : l[i]? = some a) : l.getD i 0 = a := by rw [List.getD_eq_getElem?_getD, h]; rfl
theorem itF_iff {d : DFA} (hv : Val d) : ∀ k s t, s < d.next.length → t < d.next.length → ((itF d k).getD s 0 = (itF d k).getD t 0 ↔ dif d k s t = false)
  | 0, s, t, hs, ht => by
    rw [itF, getD_of (beginF_get hs), getD_of (beginF_get ht), dif]
    cases finN d s <;> cases finN d t <;> cases finN d 0 <;> simp
  | k + 1, s, t, hs, ht => by
    have ih := itF_iff hv k
    rw [itF, refineF_nrm]
    have h1 := nrm_inj (keysD_get (cs := itF d k) hs) (keysD_get (cs := itF d k) ht)
    have e1 : (nrm (keysD d (itF d k))).getD s 0 = (nrm (keysD d (itF d k))).getD t 0 ↔ (nrm (keysD d (itF d k)))[s]? = (nrm (keysD d (itF d k)))[t]? := by
      rw [nrm_get (keysD_get hs), nrm_get (keysD_get ht), getD_of (nrm_get (keysD_get hs)), getD_of (nrm_get (keysD_get ht))]
      simp
    rw [e1, h1, keyD_iff hv (itF_length d k) hs ht, ih s t hs ht, dif, Bool.or_eq_false_iff]
    refine and_congr Iff.rfl ?_
    rw [List.any_eq_false]
    constructor
    · intro h x hx
      have hx' := List.mem_range.1 hx
      rw [Bool.not_eq_true, ← ih _ _ (toN_get hv hs hx') (toN_get hv ht hx')]
      exact h x hx'
    · intro h x hx
      rw [ih _ _ (toN_get hv hs hx) (toN_get hv ht hx), ← Bool.not_eq_true]
      exact h x (List.mem_range.2 hx)
end Go.Lx


namespace Go.Lx
set_option linter.unusedVariables false
section
variable {α : Type} [DecidableEq α]
theorem nrm_nrm (l : List α) : nrm (nrm l) = nrm l := by
  refine (nrm_congr (by rw [nrm_length]) ?_).1
  intro i j a b a' b' hi hj hi' hj'
  have := nrm_inj hi' hj'
  rw [hi, hj] at this
  simpa using this
def first (p : Nat → Bool) : Nat → Nat
  | 0 => 0
  | n + 1 => if first p n < n then first p n else if p n then n else n + 1
end
theorem foldl_add01 : ∀ (l : List Nat), (∀ x ∈ l, x ≤ 1) → l.foldl add [0, 1] = [0, 1] ∧ (l.foldl add [0] = [0] ∧ 1 ∉ l ∨ l.foldl add [0] = [0, 1] ∧ 1 ∈ l)
  | [], _ => by simp
  | x :: l, h => by
    obtain ⟨h1, h2⟩ := foldl_add01 l fun y hy => h y (by simp [hy])
    have hx := h x (by simp)
    have : x = 0 ∨ x = 1 := by omega
    rcases this with rfl | rfl
    · refine ⟨?_, ?_⟩
      · rw [List.foldl_cons, show add [0, 1] 0 = [0, 1] by decide]; exact h1
      · rw [List.foldl_cons, show add [0] 0 = [0] by decide]
        rcases h2 with ⟨a, b⟩ | ⟨a, b⟩
        · exact .inl ⟨a, by simp [b]⟩
        · exact .inr ⟨a, by simp [b]⟩
    · refine ⟨?_, ?_⟩
      · rw [List.foldl_cons, show add [0, 1] 1 = [0, 1] by decide]; exact h1
      · rw [List.foldl_cons, show add [0] 1 = [0, 1] by decide]
        exact .inr ⟨h1, by simp⟩
theorem nrm01 {l : List Nat} (h0 : l.headD 0 = 0) (h : ∀ x ∈ l, x ≤ 1) : nrm l = l := by
  cases l with
  | nil => rfl
  | cons a l =>
    simp at h0
    subst h0
    have e : dd (0 :: l) = l.foldl add [0] := by simp [dd, add]
    have h2 := (foldl_add01 l fun y hy => h y (by simp [hy])).2
    rw [nrm, e]
    conv => rhs; rw [← List.map_id (0 :: l)]
    apply List.map_congr_left
    intro x hx
    have hx1 := h x hx
    have : x = 0 ∨ x = 1 := by omega
    rcases this with rfl | rfl
    · rcases h2 with ⟨a, b⟩ | ⟨a, b⟩ <;> rw [a] <;> decide
    · rcases h2 with ⟨a, b⟩ | ⟨a, b⟩
      · simp at hx; exact absurd hx b
      · rw [a]; decide
theorem itF_can (d : DFA) : ∀ k, nrm (itF d k) = itF d k
  | 0 => by
    refine nrm01 ?_ ?_
    · rw [itF]
      cases e : (beginF d) with
      | nil => rfl
      | cons a l =>
        have : (beginF d)[0]? = some a := by rw [e]; rfl
        have hn : 0 < d.next.length := by
          have : (beginF d).length = d.next.length := by simp [beginF]
          rw [e] at this; simp at this; omega
        rw [beginF_get hn] at this
        simpa using this.symm
    · intro x hx
      obtain ⟨s, _, rfl⟩ := List.mem_map.1 hx
      split <;> omega
  | k + 1 => by rw [itF, refineF_nrm, nrm_nrm]
theorem dif_mono {d : DFA} {k m s t : Nat} (h : k ≤ m) (hd : dif d k s t = true) : dif d m s t = true := by
  obtain ⟨u, h1, h2, h3⟩ := (dif_iff d k s t).1 hd
  exact (dif_iff d m s t).2 ⟨u, h1, by omega, h3⟩
theorem itF_get {d : DFA} {k s : Nat} (hs : s < d.next.length) : (itF d k)[s]? = some ((itF d k).getD s 0) := by
  have : s < (itF d k).length := by rw [itF_length]; exact hs
  rw [List.getD_eq_getElem?_getD, List.getElem?_eq_getElem this]; rfl
def clsN (d : DFA) (k : Nat) : Nat := (dd (itF d k)).length
theorem clsN_step {d : DFA} (hv : Val d) (k : Nat) : clsN d k ≤ clsN d (k + 1) ∧ (clsN d k = clsN d (k + 1) → itF d (k + 1) = itF d k) := by
  have hl : (itF d (k + 1)).length = (itF d k).length := by rw [itF_length, itF_length]
  have at_ : ∀ p ∈ (itF d (k + 1)).zip (itF d k), ∃ s, s < d.next.length ∧ (itF d (k + 1)).getD s 0 = p.1 ∧ (itF d k).getD s 0 = p.2 := fun p hp => by
    obtain ⟨i, a1, a2⟩ := zip_get hl hp
    refine ⟨i, ?_, getD_of a1, getD_of a2⟩
    have := (List.getElem?_eq_some_iff.1 a2).1
    rwa [itF_length] at this
  have h := dd_finer ((itF d (k + 1)).zip (itF d k)) fun p hp q hq e => by
    obtain ⟨s, hs, a1, a2⟩ := at_ p hp
    obtain ⟨t, ht, b1, b2⟩ := at_ q hq
    rw [← a1, ← b1, itF_iff hv _ s t hs ht] at e
    rw [← a2, ← b2, itF_iff hv _ s t hs ht, ← Bool.not_eq_true]
    intro hh
    rw [dif_mono (Nat.le_succ k) hh] at e; cases e
  rw [(zip_ends hl).1, (zip_ends hl).2] at h
  refine ⟨h.1, fun e => ?_⟩
  have h2 := h.2 e
  rw [← itF_can d (k + 1), ← itF_can d k]
  refine (nrm_congr hl ?_).1
  intro i j a b a' b' hi hj hi' hj'
  have hm : ∀ {i a a'}, (itF d (k + 1))[i]? = some a → (itF d k)[i]? = some a' → (a, a') ∈ (itF d (k + 1)).zip (itF d k) := fun {i a a'} x y => by
    apply List.mem_of_getElem? (i := i)
    rw [List.getElem?_zip_eq_some]
    exact ⟨x, y⟩
  refine ⟨fun e => ?_, h2 _ (hm hi hi') _ (hm hj hj')⟩
  have hin : i < d.next.length := by have := (List.getElem?_eq_some_iff.1 hi').1; rwa [itF_length] at this
  have hjn : j < d.next.length := by have := (List.getElem?_eq_some_iff.1 hj').1; rwa [itF_length] at this
  rw [← getD_of hi, ← getD_of hj, itF_iff hv _ i j hin hjn] at e
  rw [← getD_of hi', ← getD_of hj', itF_iff hv _ i j hin hjn, ← Bool.not_eq_true]
  intro hh
  rw [dif_mono (Nat.le_succ k) hh] at e; cases e
theorem clsN_le (d : DFA) (k : Nat) : clsN d k ≤ d.next.length := by
  have := dd_length (itF d k)
  rw [itF_length] at this; exact this
theorem clsN_pos {d : DFA} (hv : Val d) (k : Nat) : 0 < clsN d k := by
  have h : (itF d k).getD 0 0 ∈ dd (itF d k) := mem_dd.2 (List.mem_of_getElem? (itF_get hv.n0))
  exact List.length_pos_of_mem h
theorem itF_grow {d : DFA} (hv : Val d) : ∀ k, (∃ j, j < k ∧ itF d (j + 1) = itF d j) ∨ k + 1 ≤ clsN d k
  | 0 => .inr (clsN_pos hv 0)
  | k + 1 => by
    rcases itF_grow hv k with ⟨j, hj, h⟩ | h
    · exact .inl ⟨j, by omega, h⟩
    · obtain ⟨h1, h2⟩ := clsN_step hv k
      by_cases e : clsN d k = clsN d (k + 1)
      · exact .inl ⟨k, by omega, h2 e⟩
      · exact .inr (by omega)
theorem itF_stab {d : DFA} (hv : Val d) : ∀ m, d.next.length ≤ m → itF d m = itF d d.next.length := by
  intro m hm
  rcases itF_grow hv d.next.length with ⟨j, hj, h⟩ | h
  · have hs : refineF d (itF d j) = itF d j := by rw [← itF]; exact h
    rw [itF_stable hs m (by omega), itF_stable hs d.next.length (by omega)]
  · have := clsN_le d d.next.length; omega
theorem cls_iff {d : DFA} (hv : Val d) {s t : Nat} (hs : s < d.next.length) (ht : t < d.next.length) :
    (itF d d.next.length).getD s 0 = (itF d d.next.length).getD t 0 ↔ ∀ u, Wd d u → ¬ dst d s t u := by
  constructor
  · intro h u hu hd
    have h2 : (itF d (max u.length d.next.length)).getD s 0 = (itF d (max u.length d.next.length)).getD t 0 := by rw [itF_stab hv _ (by omega)]; exact h
    rw [itF_iff hv _ s t hs ht, ← Bool.not_eq_true] at h2
    exact h2 ((dif_iff d _ s t).2 ⟨u, hu, by omega, hd⟩)
  · intro h
    rw [itF_iff hv _ s t hs ht, ← Bool.not_eq_true]
    intro hh
    obtain ⟨u, h1, _, h3⟩ := (dif_iff d _ s t).1 hh
    exact h u h1 h3
theorem quoN_cls {d : DFA} {α : Type} [DecidableEq α] {l : List α} {cs : List Nat} (hl : l.length = d.next.length) (hcs : cs = nrm l) : ∀ k, k ≤ d.next.length → (quoN d cs k).1.length = (dd (l.take k)).length
  | 0, _ => by simp [quoN, dd]
  | k + 1, hk => by
    have hk' : k < l.length := by omega
    have ih := quoN_cls hl hcs k (by omega)
    have hg := List.getElem?_eq_getElem hk'
    have hc : cs.getD k 0 = ix l[k] (dd l) := by rw [hcs]; exact getD_of (nrm_get hg)
    have hp : dd (l.take k) <+: dd l := by
      conv => rhs; rw [← List.take_append_drop k l]
      rw [dd_append]; exact foldl_prefix _ _
    rw [quoN, ih, hc, List.take_succ_eq_append_getElem hk']
    by_cases hm : l[k] ∈ l.take k
    · rw [dd_mem_snoc hm, ix_prefix hp (mem_dd.2 hm), if_pos (ix_lt (mem_dd.2 hm)), ih]
    · have hp2 : dd (l.take k) ++ [l[k]] <+: dd l := by
        rw [← dd_new_snoc hm, ← List.take_succ_eq_append_getElem hk']
        conv => rhs; rw [← List.take_append_drop (k + 1) l]
        rw [dd_append]; exact foldl_prefix _ _
      have e : ix l[k] (dd l) = (dd (l.take k)).length := by
        rw [ix_prefix hp2 (by simp), ix_append_right (fun hh => hm (mem_dd.1 hh))]; simp [ix]
      rw [dd_new_snoc hm, e, if_neg (Nat.lt_irrefl _)]
      simp [ih]
theorem quoN_rows {d : DFA} (cs : List Nat) : ∀ k, ∀ r ∈ (quoN d cs k).1, ∃ s, s < k ∧ r = (rowK cs (d.next.getD s [])).map fun c : Nat => (c : Int)
  | 0, r, h => by simp [quoN] at h
  | k + 1, r, h => by
    rw [quoN] at h
    split at h
    · obtain ⟨s, hs, e⟩ := quoN_rows cs k r h; exact ⟨s, by omega, e⟩
    · rcases List.mem_append.1 h with h | h
      · obtain ⟨s, hs, e⟩ := quoN_rows cs k r h; exact ⟨s, by omega, e⟩
      · exact ⟨k, by omega, List.mem_singleton.1 h⟩
theorem quo_len {d : DFA} {cs : List Nat} (hl : cs.length = d.next.length) (hc : nrm cs = cs) : (quo d cs).next.length = (dd cs).length := by
  show (quoN d cs d.next.length).1.length = _
  rw [quoN_cls (l := cs) hl hc.symm _ (Nat.le_refl _), List.take_of_length_le (by omega)]
theorem can_lt {cs : List Nat} (hc : nrm cs = cs) {i c : Nat} (h : cs[i]? = some c) : c < (dd cs).length := by
  have h2 := nrm_get h
  rw [hc, h] at h2
  have := ix_lt (mem_dd.2 (List.mem_of_getElem? h))
  have e := Option.some.inj h2
  omega
theorem quo_val {d : DFA} (hv : Val d) {cs : List Nat} (hl : cs.length = d.next.length) (hc : nrm cs = cs) : Val (quo d cs) := by
  have hq := quo_len hl hc
  have hlt : ∀ i, i < d.next.length → cs.getD i 0 < (dd cs).length := fun i hi => by
    have hi' : i < cs.length := by omega
    have := List.getElem?_eq_getElem hi'
    rw [getD_of this]; exact can_lt hc this
  have h1 := (quoN_len d cs d.next.length)
  refine ⟨hv.v0, hv.v6, ?_, ?_, ?_, ?_, ?_, ?_⟩
  · rw [hq]; have := hlt 0 hv.n0; omega
  · exact h1.1.symm
  · exact Int.natCast_nonneg _
  · rw [hq]
    show ((cs.getD d.start.toNat 0 : Nat) : Int) < _
    have := hlt d.start.toNat (by have := hv.s0; have := hv.s1; omega)
    omega
  · intro r hr
    obtain ⟨s, hs, rfl⟩ := quoN_rows cs _ r hr
    rw [List.length_map, rowK_length]
    simp [hs]
    exact hv.len _ (List.getElem_mem hs)
  · intro r hr x hx
    rw [hq]
    obtain ⟨s, hs, rfl⟩ := quoN_rows cs _ r hr
    obtain ⟨c, hc', rfl⟩ := List.mem_map.1 hx
    refine ⟨Int.natCast_nonneg _, ?_⟩
    obtain ⟨to, hto, rfl⟩ := List.mem_map.1 hc'
    simp [hs] at hto
    have := hv.ok _ (List.getElem_mem hs) to hto
    have := hlt to.toNat (by omega)
    omega
theorem quo_valid {d : DFA} (hv : Valid d) {cs : List Nat} (hl : cs.length = d.next.length) (hc : nrm cs = cs) : Valid (quo d cs) :=
  ⟨quo_val hv hl hc, by have := (quoN_len d cs d.next.length).2; have := hv.n4; show (quoN d cs d.next.length).1.length ≤ _; omega⟩
theorem quo_itV {d : DFA} (hv : Val d) (k : Nat) : Val (quo d (itF d k)) ∧ (quo d (itF d k)).next.length ≤ d.next.length :=
  ⟨quo_val hv (itF_length d k) (itF_can d k), (quoN_len d _ _).2⟩
theorem quo_itF {d : DFA} (hv : Valid d) (k : Nat) : Valid (quo d (itF d k)) ∧ (quo d (itF d k)).next.length ≤ d.next.length :=
  ⟨quo_valid hv (itF_length d k) (itF_can d k), (quoN_len d _ _).2⟩
end Go.Lx


namespace Go.Lx
open Go.RowKit
set_option linter.unusedVariables false
structure BRec where
  b : Option Addr
  c : Nat
  xs : List Bool
def BRec.val (q : BRec) : Value := .slice q.b q.xs.length q.c
def BRec.itm (E : TypeId) (q : BRec) : Item := rowI q.b q.c E 1 (bools q.xs)
abbrev bvals (qs : List BRec) : List Value := qs.map BRec.val
def difRow (d : DFA) (k s : Nat) : List Bool := (List.range d.next.length).map (dif d k s)
def MatOk (d : DFA) (k m : Nat) (qs : List BRec) : Prop := qs.map BRec.xs = (List.range m).map (difRow d k)
theorem difRow_length (d : DFA) (k s : Nat) : (difRow d k s).length = d.next.length := by simp [difRow]
theorem MatOk.len {d : DFA} {k m : Nat} {qs : List BRec} (h : MatOk d k m qs) : qs.length = m := by
  have := congrArg List.length h
  simpa using this
theorem MatOk.get {d : DFA} {k m : Nat} {qs : List BRec} (h : MatOk d k m qs) {a : Nat} (ha : a < m) :
    ∃ q, q ∈ qs ∧ (bvals qs)[a]? = some (.slice q.b d.next.length q.c) ∧ (bools q.xs).length = d.next.length ∧ ∀ t, t < d.next.length → (bools q.xs)[t]? = some (.bool (dif d k a t)) := by
  have hl := h.len
  have ha' : a < qs.length := by omega
  have e : qs[a].xs = difRow d k a := by
    have := congrArg (fun l => l[a]?) h
    simp only [List.getElem?_map, List.getElem?_eq_getElem ha', Option.map_some, List.getElem?_range ha] at this
    exact Option.some.inj this
  refine ⟨qs[a], List.getElem_mem ha', ?_, ?_, ?_⟩
  · rw [List.getElem?_map, List.getElem?_eq_getElem ha', Option.map_some, BRec.val, e, difRow_length]
  · rw [List.length_map, e, difRow_length]
  · intro t ht
    rw [List.getElem?_map, e, difRow, List.getElem?_map, List.getElem?_range ht]; rfl
theorem MatOk.snoc {d : DFA} {k m : Nat} {qs : List BRec} (h : MatOk d k m qs) {b : Option Addr} {c : Nat} : MatOk d k (m + 1) (qs ++ [⟨b, c, difRow d k m⟩]) := by
  unfold MatOk at *
  rw [List.map_append, h, List.range_succ, List.map_append]; rfl
end Go.Lx


namespace Go.Lx
open Go.RowKit
set_option linter.unusedVariables false
theorem foldl_add_ok {n : Nat} : ∀ (l ks : List Nat), ks.Nodup → (∀ k ∈ ks, k < n) → (∀ k ∈ l, k < n) → (l.foldl add ks).Nodup ∧ ∀ k ∈ l.foldl add ks, k < n
  | [], ks, h1, h2, _ => ⟨h1, h2⟩
  | a :: l, ks, h1, h2, h3 => foldl_add_ok l (add ks a) (add_nodup h1) (fun k hk => (mem_add.1 hk).elim (h2 k) fun e => e ▸ h3 a (by simp)) fun k hk => h3 k (by simp [hk])
theorem sucs_lt {d : DFA} (hv : Val d) {o : Nat} (ho : o < d.next.length) : ∀ t ∈ sucs d o, t < d.next.length := fun t ht => by
  obtain ⟨x, hx, rfl⟩ := List.mem_map.1 ht
  exact (hv.toN_lt ho (List.mem_range.1 hx)).1
theorem bfsN_ok {d : DFA} (hv : Val d) : ∀ i, (bfsN d i).Nodup ∧ ∀ o ∈ bfsN d i, o < d.next.length
  | 0 => by
    refine ⟨by simp [bfsN], fun o ho => ?_⟩
    simp only [bfsN, List.mem_singleton] at ho
    have := hv.s0; have := hv.s1; omega
  | i + 1 => by
    obtain ⟨h1, h2⟩ := bfsN_ok hv i
    rw [bfsN]
    split
    · rename_i hi
      refine foldl_add_ok _ _ h1 h2 (sucs_lt hv (h2 _ ?_))
      rw [List.getD_eq_getElem?_getD, List.getElem?_eq_getElem hi]
      exact List.getElem_mem hi
    · exact ⟨h1, h2⟩
theorem bfsN_len {d : DFA} (hv : Val d) (i : Nat) : (bfsN d i).length ≤ d.next.length := nodup_bound (bfsN_ok hv i).1 (bfsN_ok hv i).2
theorem bfsN_succ {d : DFA} {i o : Nat} (h : (bfsN d i)[i]? = some o) : bfsN d (i + 1) = (sucs d o).foldl add (bfsN d i) := by
  have hi := (List.getElem?_eq_some_iff.1 h).1
  rw [bfsN, if_pos hi, List.getD_eq_getElem?_getD, h]; rfl
theorem order_len {d : DFA} (hv : Val d) : (order d).length ≤ d.next.length := bfsN_len hv _
theorem order_lt {d : DFA} (hv : Val d) : ∀ o ∈ order d, o < d.next.length := (bfsN_ok hv _).2
theorem order_stop {d : DFA} (hv : Val d) : ∃ N, N ≤ d.next.length ∧ (bfsN d N).length = N ∧ (∀ j, j < N → j < (bfsN d j).length) := by
  have step : ∀ k, (∃ N, N ≤ k ∧ (bfsN d N).length = N ∧ ∀ j, j < N → j < (bfsN d j).length) ∨ ((∀ j, j < k → j < (bfsN d j).length) ∧ k ≤ (bfsN d k).length) := by
    intro k
    induction k with
    | zero => exact .inr ⟨fun j hj => absurd hj (by omega), Nat.zero_le _⟩
    | succ k ih =>
      rcases ih with ⟨N, h1, h2⟩ | ⟨h1, h2⟩
      · exact .inl ⟨N, by omega, h2⟩
      · by_cases e : (bfsN d k).length = k
        · exact .inl ⟨k, by omega, e, h1⟩
        · refine .inr ⟨fun j hj => ?_, ?_⟩
          · by_cases ej : j = k
            · subst ej; omega
            · exact h1 j (by omega)
          · have hi : k < (bfsN d k).length := by omega
            rw [bfsN_succ (List.getElem?_eq_getElem hi)]
            have := (foldl_prefix (sucs d (bfsN d k)[k]) (bfsN d k)).length_le
            omega
  rcases step d.next.length with h | ⟨h1, h2⟩
  · exact h
  · exact ⟨d.next.length, Nat.le_refl _, by have := bfsN_len hv d.next.length; omega, h1⟩
theorem bfsN_prefix (d : DFA) : ∀ (i m : Nat), i ≤ m → bfsN d i <+: bfsN d m := by
  intro i m h
  induction h with
  | refl => exact List.prefix_refl _
  | @step m _ ih =>
    refine ih.trans ?_
    rw [bfsN]
    split
    · exact foldl_prefix _ _
    · exact List.prefix_refl _
theorem order_closed {d : DFA} (hv : Val d) : ∀ o ∈ order d, ∀ t ∈ sucs d o, t ∈ order d := by
  obtain ⟨N, hN, hl, hj⟩ := order_stop hv
  have e := order_eq hl hN
  intro o ho t ht
  rw [e] at ho ⊢
  obtain ⟨j, hjo⟩ := List.getElem?_of_mem ho
  have hjl := (List.getElem?_eq_some_iff.1 hjo).1
  have hjj := hj j (by omega)
  have hp := bfsN_prefix d j N (by omega)
  have hjo' : (bfsN d j)[j]? = some o := by
    obtain ⟨r, hr⟩ := hp
    rw [← hr, List.getElem?_append_left hjj] at hjo
    exact hjo
  have hp2 := bfsN_prefix d (j + 1) N (by omega)
  refine hp2.subset ?_
  rw [bfsN_succ hjo']
  exact (mem_foldl_add _ _).2 (.inr ht)
theorem sucs_length (d : DFA) (o : Nat) : (sucs d o).length = 2 ^ d.vars.toNat := by simp [sucs]
theorem sucs_get {d : DFA} {o x : Nat} (h : x < 2 ^ d.vars.toNat) : (sucs d o)[x]? = some (toN d o x) := by simp [sucs, h]
end Go.Lx


namespace Go.Lx
set_option linter.unusedVariables false
theorem dif_stab {d : DFA} (hv : Val d) {s t : Nat} (hs : s < d.next.length) (ht : t < d.next.length) (m : Nat) (h : ∀ j, j ≤ d.next.length → dif d j s t = false) : dif d m s t = false := by
  by_cases hm : m ≤ d.next.length
  · exact h m hm
  · have h1 := (itF_iff hv d.next.length s t hs ht).2 (h _ (Nat.le_refl _))
    rw [← itF_iff hv m s t hs ht, itF_stab hv m (by omega)]
    exact h1
theorem tell_none {d : DFA} (hv : Val d) {s t : Nat} (hs : s < d.next.length) (ht : t < d.next.length) (h : ∀ j, j ≤ d.next.length → dif d j s t = false) : Tell d s t none := by
  intro u hu hd
  have := dif_stab hv hs ht u.length h
  rw [(dif_iff d u.length s t).2 ⟨u, hu, Nat.le_refl _, hd⟩] at this
  cases this
end Go.Lx


namespace Go.Lx
open Go.RowKit
set_option linter.unusedVariables false
theorem CallT.nilOr {P : Program} {base : World} {f : FuncId} {args : List Value} {O : List Item} {R : Value → List Item → Prop} (E : TypeId) (k : Nat) (h : CallT P base f args O R) : CallT P base f args O (fun v O' => ∃ O2, ((O2 ≠ [] → O' = O2) ∧ (O2 = [] → O' = [rowI none 0 E k []])) ∧ R v O2) :=
  fun w M hI => (h w M hI).mono fun _ _ ⟨v, O', h1, h2, h3⟩ => by
    cases O' with
    | nil => exact ⟨v, _, h1, h2.nilRow E k, [], ⟨fun h => absurd rfl h, fun _ => rfl⟩, h3⟩
    | cons a l => exact ⟨v, _, h1, h2, a :: l, ⟨fun _ => rfl, fun h => by cases h⟩, h3⟩
theorem CallT.none {P : Program} {base : World} {f : FuncId} {args : List Value} {R : Value → List Item → Prop} (h : CallT P base f args [] R) : CallT P base f args [] (fun v O' => O' = [] ∧ ∃ O2, R v O2) :=
  fun w M hI => (h w M hI).mono fun _ _ ⟨v, O', h1, h2, h3⟩ => ⟨v, [], h1, by simpa using h2.subp (Sub.of (List.sublist_append_right O' M)), rfl, O', h3⟩
def minD (d : DFA) : DFA := renum (quo d (itF d d.next.length))
def eD (d : DFA) (s t : Int) : Nat := if checkD d ≠ 0 then checkD d else if s < 0 ∨ t < 0 ∨ (d.next.length : Int) ≤ s ∨ (d.next.length : Int) ≤ t then 8 else 0
def TellA (d : DFA) (s t : Int) (res : Option (List Nat)) : Prop := if eD d s t = 0 then Tell d s.toNat t.toNat res else res = none
theorem eD_zero {d : DFA} {s t : Int} : eD d s t = 0 ↔ Valid d ∧ 0 ≤ s ∧ s < (d.next.length : Int) ∧ 0 ≤ t ∧ t < (d.next.length : Int) := by
  unfold eD
  by_cases h : checkD d = 0
  · rw [if_neg (by simp [h])]
    by_cases h2 : s < 0 ∨ t < 0 ∨ (d.next.length : Int) ≤ s ∨ (d.next.length : Int) ≤ t
    · rw [if_pos h2]; exact ⟨fun h => absurd h (by decide), fun h => by omega⟩
    · rw [if_neg h2]; exact ⟨fun _ => ⟨checkD_zero.1 h, by omega, by omega, by omega, by omega⟩, fun _ => rfl⟩
  · rw [if_pos h]; exact ⟨fun e => absurd e h, fun hh => absurd (checkD_zero.2 hh.1) h⟩
theorem TellA.unique {d : DFA} {s t : Int} {a b : Option (List Nat)} (ha : TellA d s t a) (hb : TellA d s t b) : a = b := by
  unfold TellA at *
  by_cases h : eD d s t = 0
  · rw [if_pos h] at ha hb
    exact Tell.unique (eD_zero.1 h).1 ha hb
  · rw [if_neg h] at ha hb
    rw [ha, hb]
theorem TellA.none {d : DFA} {s t : Int} {a : Option (List Nat)} (h : eD d s t ≠ 0) (ha : TellA d s t a) : a = .none := by
  unfold TellA at ha; rwa [if_neg h] at ha
end Go.Lx


namespace Go.Lx
open Go.RowKit
set_option linter.unusedVariables false
structure DRec where
  d : DFA
  nb : Option Addr
  fb : Option Addr
  nc : Nat
  fc : Nat
  vs : List Value
def DRec.cells (r : DRec) : List Value := dfaCells r.d r.nb r.nc r.fb r.fc
def longD (d : DFA) : Bool := decide (40 < d.next.length) || decide (40 < d.final.length) || d.next.any fun r => decide (100 < r.length)
theorem longD_false {d : DFA} (h : ¬ longD d = true) : d.next.length ≤ 40 ∧ d.final.length ≤ 40 ∧ ∀ r ∈ d.next, r.length ≤ 100 := by
  simp only [longD, Bool.or_eq_true, decide_eq_true_eq, List.any_eq_true, not_or, not_exists, not_and] at h
  obtain ⟨⟨h1, h2⟩, h3⟩ := h
  exact ⟨by omega, by omega, fun r hr => by have := h3 r hr; omega⟩
theorem any_take {α : Type} {L : List α} {f : α → Bool} {i : Nat} (hi : i < L.length) (h : (L.take i).any f = false) (h2 : f L[i] = false) : (L.take (i + 1)).any f = false := by
  rw [List.take_succ_eq_append_getElem hi, List.any_append, h]; simp [h2]
theorem any_at {α : Type} {L : List α} {f : α → Bool} {i : Nat} (hi : i < L.length) (h : f L[i] = true) : L.any f = true :=
  List.any_eq_true.2 ⟨_, List.getElem_mem hi, h⟩
end Go.Lx
namespace Go.Lx
end Go.Lx
namespace Go.Lx
theorem Tell.len {d : DFA} (hv : Valid d) {s t : Nat} (hs : s < d.next.length) (ht : t < d.next.length) {u : List Nat} (h : Tell d s t (some u)) : u.length ≤ d.next.length := by
  have h : IsLeast d s t u := h
  by_cases hd : ∀ j, j ≤ d.next.length → dif d j s t = false
  · exact absurd h.dst (tell_none hv hs ht hd u h.wd)
  · obtain ⟨j, hj⟩ := Classical.not_forall.1 hd
    simp only [Classical.not_imp, Bool.not_eq_false] at hj
    obtain ⟨w, h1, h2, h3⟩ := (dif_iff d j s t).1 hj.2
    have := code_len u w (hv.wd64 h.wd) (hv.wd64 h1) (h.le w h1 h3)
    omega
theorem TellA.len {d : DFA} (hN : Valid d → d.next.length < 10000) {s t : Int} {res : Option (List Nat)} (h : TellA d s t res) : (res.getD []).length < 9223372036854775807 := by
  unfold TellA at h
  by_cases h0 : eD d s t = 0
  · rw [if_pos h0] at h
    obtain ⟨hv, h1, h2, h3, h4⟩ := eD_zero.1 h0
    cases res with
    | none => exact (by decide : 0 < 9223372036854775807)
    | some u =>
      have := Tell.len hv (by omega) (by omega) h
      have := hN hv
      show u.length < _
      omega
  · rw [if_neg h0] at h
    subst h
    exact (by decide : 0 < 9223372036854775807)
end Go.Lx


namespace Go.Lx
set_option linter.unusedVariables false
def clsOf (d : DFA) (s : Nat) : Nat := (itF d d.next.length).getD s 0
theorem clsOf_iff {d : DFA} (hv : Val d) {s t : Nat} (hs : s < d.next.length) (ht : t < d.next.length) : clsOf d s = clsOf d t ↔ ∀ u, Wd d u → ¬ dst d s t u := cls_iff hv hs ht
theorem clsOf_fin {d : DFA} (hv : Val d) {s t : Nat} (hs : s < d.next.length) (ht : t < d.next.length) (h : clsOf d s = clsOf d t) : finN d s = finN d t := by
  have := (clsOf_iff hv hs ht).1 h [] (fun x hx => by cases hx)
  exact Classical.not_not.1 this
theorem clsOf_next {d : DFA} (hv : Val d) {s t x : Nat} (hs : s < d.next.length) (ht : t < d.next.length) (hx : x < letN d) (h : clsOf d s = clsOf d t) : clsOf d (toN d s x) = clsOf d (toN d t x) := by
  rw [clsOf_iff hv (toN_get hv hs hx) (toN_get hv ht hx)]
  intro u hu hd
  exact (clsOf_iff hv hs ht).1 h (x :: u) (fun y hy => by rcases List.mem_cons.1 hy with rfl | hy; exact hx; exact hu y hy) hd
theorem quoN_at {d : DFA} {cs : List Nat} (hl : cs.length = d.next.length) (hc : nrm cs = cs) : ∀ k, k ≤ d.next.length → ∀ c, c < (quoN d cs k).1.length → ∃ s, s < k ∧ cs.getD s 0 = c ∧ (quoN d cs k).1[c]? = some ((rowK cs (d.next.getD s [])).map fun c : Nat => (c : Int)) ∧ (quoN d cs k).2[c]? = some (finN d s)
  | 0, _, c, h => by simp [quoN] at h
  | k + 1, hk, c, h => by
    have ih := quoN_at hl hc k (by omega)
    have hlen := quoN_len d cs k
    by_cases hn : cs.getD k 0 < (quoN d cs k).1.length
    · rw [quoN, if_pos hn] at h ⊢
      obtain ⟨s, h1, h2⟩ := ih c h
      exact ⟨s, by omega, h2⟩
    · rw [quoN, if_neg hn] at h ⊢
      by_cases hcl : c < (quoN d cs k).1.length
      · obtain ⟨s, h1, h2, h3, h4⟩ := ih c hcl
        exact ⟨s, by omega, h2, by rw [List.getElem?_append_left hcl]; exact h3, by rw [List.getElem?_append_left (by omega)]; exact h4⟩
      · have hce : c = (quoN d cs k).1.length := by simp at h; omega
        refine ⟨k, by omega, ?_, ?_, ?_⟩
        · have h1 := quoN_cls (l := cs) hl hc.symm k (by omega)
          have h2 := quoN_cls (l := cs) hl hc.symm (k + 1) hk
          have hkl : k < cs.length := by omega
          have hg := List.getElem?_eq_getElem hkl
          have hck : cs.getD k 0 = ix cs[k] (dd cs) := by
            have := nrm_get hg
            rw [hc] at this
            rw [List.getD_eq_getElem?_getD, this]; rfl
          have hp2 : dd (cs.take (k + 1)) <+: dd cs := by
            conv => rhs; rw [← List.take_append_drop (k + 1) cs]
            rw [dd_append]; exact foldl_prefix _ _
          have hm : cs[k] ∈ dd (cs.take (k + 1)) := mem_dd.2 (by rw [List.take_succ_eq_append_getElem hkl]; exact List.mem_append_right _ (List.mem_singleton.2 rfl))
          have hlt := ix_lt hm
          rw [hck, ix_prefix hp2 hm]
          rw [hck, ix_prefix hp2 hm] at hn
          rw [quoN, if_neg (by rw [hck, ix_prefix hp2 hm]; exact hn)] at h2
          simp at h2
          omega
        · rw [hce, List.getElem?_append_right (Nat.le_refl _)]; simp
        · rw [hce, hlen.1, List.getElem?_append_right (Nat.le_refl _)]; simp [finN]
def quoD (d : DFA) : DFA := quo d (itF d d.next.length)
theorem quoD_val {d : DFA} (hv : Val d) : Val (quoD d) := (quo_itV hv d.next.length).1
theorem quoD_valid {d : DFA} (hv : Valid d) : Valid (quoD d) := (quo_itF hv d.next.length).1
theorem cls_lt {d : DFA} (hv : Val d) {s : Nat} (hs : s < d.next.length) : clsOf d s < (quoD d).next.length := by
  rw [quoD, quo_len (itF_length d _) (itF_can d _)]
  exact can_lt (itF_can d _) (itF_get hs)
theorem quoD_at {d : DFA} (hv : Val d) {c : Nat} (hc : c < (quoD d).next.length) : ∃ s, s < d.next.length ∧ clsOf d s = c ∧ finN (quoD d) c = finN d s ∧ ∀ x, x < letN d → toN (quoD d) c x = clsOf d (toN d s x) := by
  obtain ⟨s, h1, h2, h3, h4⟩ := quoN_at (itF_length d d.next.length) (itF_can d _) d.next.length (Nat.le_refl _) c hc
  refine ⟨s, h1, h2, ?_, ?_⟩
  · show (quoN d (itF d d.next.length) d.next.length).2.getD c false = _
    rw [List.getD_eq_getElem?_getD, h4]; rfl
  · intro x hx
    have hrow : (quoD d).next.getD c [] = (rowK (itF d d.next.length) (d.next.getD s [])).map fun c : Nat => (c : Int) := by
      show (quoN d (itF d d.next.length) d.next.length).1.getD c [] = _
      rw [List.getD_eq_getElem?_getD, h3]; rfl
    have hls : (d.next.getD s []).length = letN d := by simp [h1]; exact hv.len _ (List.getElem_mem h1)
    have hx' : x < (d.next.getD s []).length := by omega
    have e1 : (d.next.getD s []).getD x 0 = (d.next.getD s [])[x] := by rw [List.getD_eq_getElem?_getD, List.getElem?_eq_getElem hx']; rfl
    rw [toN, hrow, List.getD_eq_getElem?_getD, List.getElem?_map, rowK, List.getElem?_map, List.getElem?_eq_getElem hx']
    show (((itF d d.next.length).getD (d.next.getD s [])[x].toNat 0 : Nat) : Int).toNat = clsOf d (toN d s x)
    rw [Int.toNat_natCast, clsOf, toN, e1]
theorem quoD_step {d : DFA} (hv : Val d) {s x : Nat} (hs : s < d.next.length) (hx : x < letN d) : toN (quoD d) (clsOf d s) x = clsOf d (toN d s x) := by
  obtain ⟨s', h1, h2, _, h4⟩ := quoD_at hv (cls_lt hv hs)
  rw [h4 x hx]
  exact clsOf_next hv h1 hs hx h2
theorem quoD_fin {d : DFA} (hv : Val d) {s : Nat} (hs : s < d.next.length) : finN (quoD d) (clsOf d s) = finN d s := by
  obtain ⟨s', h1, h2, h3, _⟩ := quoD_at hv (cls_lt hv hs)
  rw [h3]; exact clsOf_fin hv h1 hs h2
theorem quoD_run {d : DFA} (hv : Val d) {s : Nat} (hs : s < d.next.length) : ∀ w, Wd d w → runN (quoD d) (clsOf d s) w = clsOf d (runN d s w) := by
  refine snocInd (fun _ => rfl) ?_
  intro w x ih hw
  have hw' : Wd d w := fun y hy => hw y (by simp [hy])
  rw [runN_snoc, runN_snoc, ih hw', quoD_step hv (runN_lt hv hs w hw') (hw x (by simp))]
theorem quoD_start (d : DFA) : (quoD d).start.toNat = clsOf d d.start.toNat := by
  show (((itF d d.next.length).getD d.start.toNat 0 : Nat) : Int).toNat = _
  rw [Int.toNat_natCast]; rfl
theorem order_start {d : DFA} (hv : Val d) : ∃ r, order d = d.start.toNat :: r := by
  have hp := bfsN_prefix d 0 d.next.length (Nat.zero_le _)
  obtain ⟨r, hr⟩ := hp
  exact ⟨r, hr.symm⟩
theorem renum_val {d : DFA} (hv : Val d) : Val (renum d) := by
  obtain ⟨r, hr⟩ := order_start hv
  have hl := order_len hv
  have hpos : 0 < (order d).length := by rw [hr]; simp
  refine ⟨hv.v0, hv.v6, ?_, ?_, Int.le_refl _, ?_, ?_, ?_⟩
  · simpa [renum] using hpos
  · simp [renum]
  · show (0 : Int) < ((renum d).next.length : Nat)
    simp only [renum, List.length_map]; omega
  · intro r hr
    obtain ⟨o, ho, rfl⟩ := List.mem_map.1 hr
    rw [List.length_map, sucs_length]; rfl
  · intro r hr x hx
    obtain ⟨o, ho, rfl⟩ := List.mem_map.1 hr
    obtain ⟨t, ht, rfl⟩ := List.mem_map.1 hx
    refine ⟨Int.natCast_nonneg _, ?_⟩
    have := ix_lt (order_closed hv o ho t ht)
    simp only [renum, List.length_map]; omega
theorem renum_step {d : DFA} (hv : Val d) {s x : Nat} (hs : s ∈ order d) (hx : x < letN d) : toN (renum d) (ix s (order d)) x = ix (toN d s x) (order d) := by
  have hg := ix_get hs
  have hrow : (renum d).next.getD (ix s (order d)) [] = (sucs d s).map fun t => ((ix t (order d) : Nat) : Int) := by
    show ((order d).map fun o => (sucs d o).map fun t => ((ix t (order d) : Nat) : Int)).getD _ [] = _
    rw [List.getD_eq_getElem?_getD, List.getElem?_map, hg]; rfl
  rw [toN, hrow, List.getD_eq_getElem?_getD, List.getElem?_map, sucs_get hx]
  show ((ix (toN d s x) (order d) : Nat) : Int).toNat = _
  rw [Int.toNat_natCast]
theorem renum_fin {d : DFA} {s : Nat} (hs : s ∈ order d) : finN (renum d) (ix s (order d)) = finN d s := by
  show ((order d).map fun o => d.final.getD o false).getD _ false = _
  rw [List.getD_eq_getElem?_getD, List.getElem?_map, ix_get hs]; rfl
theorem order_run {d : DFA} (hv : Val d) {s : Nat} (hs : s ∈ order d) : ∀ w, Wd d w → runN d s w ∈ order d := by
  refine snocInd (fun _ => hs) ?_
  intro w x ih hw
  rw [runN_snoc]
  exact order_closed hv _ (ih fun y hy => hw y (by simp [hy])) _ (List.mem_of_getElem? (sucs_get (hw x (by simp))))
theorem renum_run {d : DFA} (hv : Val d) {s : Nat} (hs : s ∈ order d) : ∀ w, Wd d w → runN (renum d) (ix s (order d)) w = ix (runN d s w) (order d) := by
  refine snocInd (fun _ => rfl) ?_
  intro w x ih hw
  have hw' : Wd d w := fun y hy => hw y (by simp [hy])
  rw [runN_snoc, runN_snoc, ih hw', renum_step hv (order_run hv hs w hw') (hw x (by simp))]
theorem start_mem {d : DFA} (hv : Val d) : d.start.toNat ∈ order d := by
  obtain ⟨r, hr⟩ := order_start hv
  rw [hr]; simp
theorem start_ix {d : DFA} (hv : Val d) : ix d.start.toNat (order d) = 0 := by
  obtain ⟨r, hr⟩ := order_start hv
  rw [hr]; simp [ix]
def acc (d : DFA) (w : List Nat) : Bool := finN d (runN d d.start.toNat w)
theorem start_lt {d : DFA} (hv : Val d) : d.start.toNat < d.next.length := by have := hv.s0; have := hv.s1; omega
theorem renum_acc {d : DFA} (hv : Val d) {w : List Nat} (hw : Wd d w) : acc (renum d) w = acc d w := by
  have h := renum_run hv (start_mem hv) w hw
  rw [start_ix hv] at h
  show finN (renum d) (runN (renum d) 0 w) = _
  rw [h, renum_fin (order_run hv (start_mem hv) w hw)]; rfl
theorem quoD_acc {d : DFA} (hv : Val d) {w : List Nat} (hw : Wd d w) : acc (quoD d) w = acc d w := by
  unfold acc
  rw [quoD_start, quoD_run hv (start_lt hv) w hw, quoD_fin hv (runN_lt hv (start_lt hv) w hw)]
theorem minD_val {d : DFA} (hv : Val d) : Val (minD d) := renum_val (quoD_val hv)
theorem renum_fit {d : DFA} (hv : Val d) (h : (order d).length ≤ 4096) : Valid (renum d) := ⟨renum_val hv, by simpa [renum] using h⟩
theorem renum_valid {d : DFA} (hv : Valid d) : Valid (renum d) := renum_fit hv (Nat.le_trans (order_len hv.toVal) hv.n4)
theorem minD_valid {d : DFA} (hv : Valid d) : Valid (minD d) := renum_valid (quoD_valid hv)
theorem minD_acc {d : DFA} (hv : Val d) {w : List Nat} (hw : Wd d w) : acc (minD d) w = acc d w :=
  (renum_acc (quoD_val hv) hw).trans (quoD_acc hv hw)
inductive All2 (ρ : Nat → Nat → Prop) : List Nat → List Nat → Prop
  | nil : All2 ρ [] []
  | cons {a b l m} : ρ a b → All2 ρ l m → All2 ρ (a :: l) (b :: m)
theorem All2.append {ρ : Nat → Nat → Prop} {l m l' m' : List Nat} (h : All2 ρ l m) (h' : All2 ρ l' m') : All2 ρ (l ++ l') (m ++ m') := by
  induction h with
  | nil => exact h'
  | cons h1 _ ih => exact .cons h1 ih
theorem All2.len {ρ : Nat → Nat → Prop} {l m : List Nat} (h : All2 ρ l m) : l.length = m.length := by
  induction h with
  | nil => rfl
  | cons _ _ ih => simp [ih]
theorem All2.get {ρ : Nat → Nat → Prop} {l m : List Nat} (h : All2 ρ l m) : ∀ {i a b : Nat}, l[i]? = some a → m[i]? = some b → ρ a b := by
  induction h with
  | nil => intro i a b h; simp at h
  | cons h1 _ ih =>
    intro i a b ha hb
    cases i with
    | zero => simp at ha hb; subst ha; subst hb; exact h1
    | succ i => exact ih (by simpa using ha) (by simpa using hb)
section
variable {ρ : Nat → Nat → Prop}
def OneOne (ρ : Nat → Nat → Prop) : Prop := ∀ a b a' b', ρ a b → ρ a' b' → (a = a' ↔ b = b')
theorem All2.mem (ho : OneOne ρ) {l m : List Nat} (h : All2 ρ l m) {a b : Nat} (hab : ρ a b) : a ∈ l ↔ b ∈ m := by
  induction h with
  | nil => simp
  | cons h1 _ ih => rw [List.mem_cons, List.mem_cons, ih, ho _ _ _ _ hab h1]
theorem All2.ix (ho : OneOne ρ) {l m : List Nat} (h : All2 ρ l m) {a b : Nat} (hab : ρ a b) : Lx.ix a l = Lx.ix b m := by
  induction h with
  | nil => rfl
  | @cons x y l m h1 _ ih =>
    simp only [Lx.ix, ih]
    by_cases e : a = x
    · rw [if_pos e, if_pos ((ho _ _ _ _ hab h1).1 e)]
    · rw [if_neg e, if_neg (fun h => e ((ho _ _ _ _ hab h1).2 h))]
theorem All2.add (ho : OneOne ρ) {l m : List Nat} (h : All2 ρ l m) {a b : Nat} (hab : ρ a b) : All2 ρ (Lx.add l a) (Lx.add m b) := by
  unfold Lx.add
  by_cases e : a ∈ l
  · rw [if_pos e, if_pos ((h.mem ho hab).1 e)]; exact h
  · rw [if_neg e, if_neg (fun h9 => e ((h.mem ho hab).2 h9))]; exact h.append (.cons hab .nil)
theorem All2.foldl (ho : OneOne ρ) {xs ys : List Nat} (hx : All2 ρ xs ys) : ∀ {l m : List Nat}, All2 ρ l m → All2 ρ (xs.foldl Lx.add l) (ys.foldl Lx.add m) := by
  induction hx with
  | nil => intro l m h; exact h
  | cons h1 _ ih => intro l m h; exact ih (h.add ho h1)
theorem All2.map {f g : Nat → Nat} : ∀ (l : List Nat), (∀ x ∈ l, ρ (f x) (g x)) → All2 ρ (l.map f) (l.map g)
  | [], _ => .nil
  | x :: l, h => .cons (h x (by simp)) (All2.map l fun y hy => h y (by simp [hy]))
structure Bisim (ρ : Nat → Nat → Prop) (p q : DFA) : Prop where
  vars : p.vars = q.vars
  one : OneOne ρ
  start : ρ p.start.toNat q.start.toNat
  step : ∀ a b x, ρ a b → x < letN p → ρ (toN p a x) (toN q b x)
  fin : ∀ a b, ρ a b → finN p a = finN q b
theorem Bisim.sucs {p q : DFA} (h : Bisim ρ p q) {a b : Nat} (hab : ρ a b) : All2 ρ (sucs p a) (sucs q b) := by
  unfold Lx.sucs
  rw [← h.vars]
  exact All2.map _ fun x hx => h.step a b x hab (List.mem_range.1 hx)
theorem Bisim.bfs {p q : DFA} (h : Bisim ρ p q) : ∀ i, All2 ρ (bfsN p i) (bfsN q i)
  | 0 => .cons h.start .nil
  | i + 1 => by
    have ih := h.bfs i
    have hl := ih.len
    rw [bfsN, bfsN, ← hl]
    by_cases hi : i < (bfsN p i).length
    · rw [if_pos hi, if_pos hi]
      have hi2 : i < (bfsN q i).length := by omega
      have g1 := List.getElem?_eq_getElem hi
      have g2 := List.getElem?_eq_getElem hi2
      have e1 : (bfsN p i).getD i 0 = (bfsN p i)[i] := by rw [List.getD_eq_getElem?_getD, g1]; rfl
      have e2 : (bfsN q i).getD i 0 = (bfsN q i)[i] := by rw [List.getD_eq_getElem?_getD, g2]; rfl
      rw [e1, e2]
      exact (h.sucs (ih.get g1 g2)).foldl h.one ih
    · rw [if_neg hi, if_neg hi]; exact ih
theorem Bisim.order {p q : DFA} (h : Bisim ρ p q) (hp : Val p) (hq : Val q) : All2 ρ (order p) (order q) := by
  obtain ⟨N, h1, h2, _⟩ := order_stop hp
  have e1 := order_eq h2 h1
  have hb := h.bfs N
  have h2q : (bfsN q N).length = N := by rw [← hb.len]; exact h2
  have hNq : N ≤ q.next.length := by rw [← h2q]; exact bfsN_len hq N
  rw [e1, order_eq h2q hNq]
  exact hb
theorem Bisim.renum {p q : DFA} (h : Bisim ρ p q) (hp : Val p) (hq : Val q) : renum p = renum q := by
  have ho := h.order hp hq
  have rows : ∀ {l m : List Nat}, All2 ρ l m → (l.map fun o => (Lx.sucs p o).map fun t => ((Lx.ix t (Lx.order p) : Nat) : Int)) = m.map fun o => (Lx.sucs q o).map fun t => ((Lx.ix t (Lx.order q) : Nat) : Int) := by
    intro l m hlm
    induction hlm with
    | nil => rfl
    | cons h1 _ ih =>
      rw [List.map_cons, List.map_cons, ih]
      congr 1
      have hs := h.sucs h1
      have each : ∀ {x y : List Nat}, All2 ρ x y → (x.map fun t => ((Lx.ix t (Lx.order p) : Nat) : Int)) = y.map fun t => ((Lx.ix t (Lx.order q) : Nat) : Int) := by
        intro x y hxy
        induction hxy with
        | nil => rfl
        | cons h2 _ ih2 => rw [List.map_cons, List.map_cons, ih2, ho.ix h.one h2]
      exact each hs
  have fins : ∀ {l m : List Nat}, All2 ρ l m → (l.map fun o => p.final.getD o false) = m.map fun o => q.final.getD o false := by
    intro l m hlm
    induction hlm with
    | nil => rfl
    | cons h1 _ ih => rw [List.map_cons, List.map_cons, ih]; congr 1; exact h.fin _ _ h1
  unfold Lx.renum
  rw [rows ho, fins ho, h.vars]
end
theorem minD_unique {a b : DFA} (ha : Val a) (hb : Val b) (hvars : a.vars = b.vars) (h : ∀ w, Wd a w → acc a w = acc b w) : minD a = minD b := by
  have hwd : ∀ w, Wd a w ↔ Wd b w := fun w => by unfold Wd letN; rw [hvars]
  refine Bisim.renum (ρ := fun c1 c2 => ∃ s t, s < a.next.length ∧ t < b.next.length ∧ clsOf a s = c1 ∧ clsOf b t = c2 ∧ ∀ w, Wd a w → finN a (runN a s w) = finN b (runN b t w)) ⟨hvars, ?_, ?_, ?_, ?_⟩ (quoD_val ha) (quoD_val hb)
  · rintro c1 c2 c1' c2' ⟨s, t, hs, ht, rfl, rfl, hw⟩ ⟨s', t', hs', ht', rfl, rfl, hw'⟩
    rw [clsOf_iff ha hs hs', clsOf_iff hb ht ht']
    constructor
    · intro h1 u hu hd
      have hu' := (hwd u).2 hu
      refine h1 u hu' ?_
      unfold dst at *
      rw [hw u hu', hw' u hu']; exact hd
    · intro h1 u hu hd
      refine h1 u ((hwd u).1 hu) ?_
      unfold dst at *
      rw [← hw u hu, ← hw' u hu]; exact hd
  · exact ⟨a.start.toNat, b.start.toNat, start_lt ha, start_lt hb, (quoD_start a).symm, (quoD_start b).symm, h⟩
  · rintro c1 c2 x ⟨s, t, hs, ht, rfl, rfl, hw⟩ hx
    have hxa : x < letN a := hx
    have hxb : x < letN b := by unfold letN at *; rw [← hvars]; exact hxa
    refine ⟨toN a s x, toN b t x, toN_get ha hs hxa, toN_get hb ht hxb, (quoD_step ha hs hxa).symm, (quoD_step hb ht hxb).symm, fun w hww => ?_⟩
    exact hw (x :: w) (fun y hy => by rcases List.mem_cons.1 hy with rfl | hy; exact hxa; exact hww y hy)
  · rintro c1 c2 ⟨s, t, hs, ht, rfl, rfl, hw⟩
    show finN (quoD a) _ = finN (quoD b) _
    rw [quoD_fin ha hs, quoD_fin hb ht]
    exact hw [] (fun x hx => by cases hx)
end Go.Lx


namespace Go.Lx
set_option linter.unusedVariables false
end Go.Lx


namespace Go.Lx
set_option linter.unusedVariables false
end Go.Lx


namespace Go.Lx
set_option linter.unusedVariables false
theorem bfsN_reach {d : DFA} (hv : Val d) : ∀ i, ∀ o ∈ bfsN d i, ∃ w, Wd d w ∧ runN d d.start.toNat w = o
  | 0, o, h => by
    simp only [bfsN, List.mem_singleton] at h
    subst h
    exact ⟨[], fun x hx => (List.not_mem_nil hx).elim, rfl⟩
  | i + 1, o, h => by
    rw [bfsN] at h
    split at h
    · rename_i hi
      rcases (mem_foldl_add _ _).1 h with h | h
      · exact bfsN_reach hv i o h
      · obtain ⟨x, hx, rfl⟩ := List.mem_map.1 h
        have hm : (bfsN d i).getD i 0 ∈ bfsN d i := by
          rw [List.getD_eq_getElem?_getD, List.getElem?_eq_getElem hi]; exact List.getElem_mem hi
        obtain ⟨w, hw, he⟩ := bfsN_reach hv i _ hm
        refine ⟨w ++ [x], fun y hy => ?_, by rw [runN_snoc, he]⟩
        rcases List.mem_append.1 hy with hy | hy
        · exact hw y hy
        · rw [List.mem_singleton.1 hy]; exact List.mem_range.1 hx
    · exact bfsN_reach hv i o h
theorem map_nodup {f : Nat → Nat} : ∀ {l : List Nat}, l.Nodup → (∀ a ∈ l, ∀ b ∈ l, f a = f b → a = b) → (l.map f).Nodup
  | [], _, _ => List.nodup_nil
  | a :: l, hn, hi => by
    obtain ⟨h1, h2⟩ := List.nodup_cons.1 hn
    rw [List.map_cons, List.nodup_cons]
    refine ⟨fun hm => ?_, map_nodup h2 fun x hx y hy => hi x (by simp [hx]) y (by simp [hy])⟩
    obtain ⟨y, hy, e⟩ := List.mem_map.1 hm
    have := hi a (by simp) y (by simp [hy]) e.symm
    exact h1 (this ▸ hy)
theorem minD_renum {d : DFA} (hv : Val d) : minD (renum d) = minD d := minD_unique (renum_val hv) hv rfl fun w hw => renum_acc hv hw
theorem minD_min {d : DFA} (hv : Val d) : minD (minD d) = minD d := minD_unique (minD_val hv) hv rfl fun w hw => minD_acc hv hw
end Go.Lx


namespace Go.Lx
open Go.RowKit
set_option linter.unusedVariables false
def prRow (a b : DFA) (s t : Nat) : List Int := (List.range (letN a)).map fun x => ((toN a s x * b.next.length + toN b t x : Nat) : Int)
def prNext (a b : DFA) : List (List Int) := (List.range (a.next.length * b.next.length)).map fun c => prRow a b (c / b.next.length) (c % b.next.length)
def prFin (f : Bool → Bool → Bool) (a b : DFA) : List Bool := (List.range (a.next.length * b.next.length)).map fun c => f (finN a (c / b.next.length)) (finN b (c % b.next.length))
def prodD (f : Bool → Bool → Bool) (a b : DFA) : DFA := ⟨a.vars, ((a.start.toNat * b.next.length + b.start.toNat : Nat) : Int), prNext a b, prFin f a b⟩
theorem pr_div {n s t : Nat} (ht : t < n) : (s * n + t) / n = s ∧ (s * n + t) % n = t := by
  rw [Nat.mul_comm]
  exact ⟨by rw [Nat.mul_add_div (by omega), Nat.div_eq_of_lt ht, Nat.add_zero], by rw [Nat.mul_add_mod, Nat.mod_eq_of_lt ht]⟩
theorem pr_lt {n k s t : Nat} (hs : s < k) (ht : t < n) : s * n + t < k * n := by
  have := Nat.mul_le_mul_right n (show s + 1 ≤ k by omega); rw [Nat.succ_mul] at this; omega
theorem pr_split {n k c : Nat} (h : c < k * n) : c / n < k ∧ c % n < n := by
  have hn : 0 < n := by
    rcases Nat.eq_zero_or_pos n with h0 | h0
    · rw [h0, Nat.mul_zero] at h; exact absurd h (Nat.not_lt_zero _)
    · exact h0
  exact ⟨(Nat.div_lt_iff_lt_mul hn).2 h, Nat.mod_lt _ hn⟩
theorem prod_len (f : Bool → Bool → Bool) (a b : DFA) : (prodD f a b).next.length = a.next.length * b.next.length := by
  show (prNext a b).length = _; unfold prNext; simp
theorem prod_val {f : Bool → Bool → Bool} {a b : DFA} (ha : Val a) (hb : Val b) (hv : a.vars = b.vars) : Val (prodD f a b) := by
  have a0 := start_lt ha; have b0 := start_lt hb
  have hlt := pr_lt a0 b0
  refine { v0 := ha.v0, v6 := ha.v6, n0 := ?_, fin := ?_, s0 := ?_, s1 := ?_, len := ?_, ok := ?_ }
  · rw [prod_len]; omega
  · rw [prod_len]; show (prFin f a b).length = _; unfold prFin; simp
  · show (0 : Int) ≤ ((_ : Nat) : Int); omega
  · rw [prod_len]; show ((_ : Nat) : Int) < ((_ : Nat) : Int); omega
  · intro r hr
    obtain ⟨c, _, rfl⟩ := List.mem_map.1 (show r ∈ prNext a b from hr)
    unfold prRow; simp; rfl
  · intro r hr x hx
    obtain ⟨c, hc, rfl⟩ := List.mem_map.1 (show r ∈ prNext a b from hr)
    obtain ⟨y, hy, rfl⟩ := List.mem_map.1 (show x ∈ prRow a b _ _ from hx)
    rw [List.mem_range] at hc hy
    obtain ⟨h1, h2⟩ := pr_split hc
    have h3 := (ha.toN_lt h1 hy).1
    have h4 := (hb.toN_lt h2 (by rw [← hv]; exact hy)).1
    have := pr_lt h3 h4
    rw [prod_len]; omega
theorem prod_valid {f : Bool → Bool → Bool} {a b : DFA} (ha : Val a) (hb : Val b) (hv : a.vars = b.vars) (hn : a.next.length * b.next.length ≤ 4096) : Valid (prodD f a b) := ⟨prod_val ha hb hv, by rw [prod_len]; exact hn⟩
theorem prod_fin {f : Bool → Bool → Bool} {a b : DFA} {s t : Nat} (hs : s < a.next.length) (ht : t < b.next.length) : finN (prodD f a b) (s * b.next.length + t) = f (finN a s) (finN b t) := by
  have hd := pr_div (s := s) ht
  have hc := pr_lt hs ht
  show (prFin f a b).getD _ false = _
  unfold prFin
  rw [List.getD_eq_getElem?_getD, List.getElem?_map, List.getElem?_range hc]
  simp only [Option.map_some, Option.getD_some, hd.1, hd.2]
theorem prod_step {f : Bool → Bool → Bool} {a b : DFA} {s t x : Nat} (hs : s < a.next.length) (ht : t < b.next.length) (hx : x < letN a) : toN (prodD f a b) (s * b.next.length + t) x = toN a s x * b.next.length + toN b t x := by
  have hd := pr_div (s := s) ht
  have hc := pr_lt hs ht
  show (((prNext a b).getD _ []).getD x 0).toNat = _
  unfold prNext
  rw [List.getD_eq_getElem?_getD (l := List.map _ _), List.getElem?_map, List.getElem?_range hc]
  simp only [Option.map_some, Option.getD_some, hd.1, hd.2]
  unfold prRow
  rw [List.getD_eq_getElem?_getD, List.getElem?_map, List.getElem?_range hx]
  exact Int.toNat_natCast _
theorem prod_run {f : Bool → Bool → Bool} {a b : DFA} (ha : Val a) (hb : Val b) (hv : a.vars = b.vars) {s t : Nat} (hs : s < a.next.length) (ht : t < b.next.length) : ∀ w, Wd a w → runN (prodD f a b) (s * b.next.length + t) w = runN a s w * b.next.length + runN b t w := by
  refine snocInd (fun _ => rfl) ?_
  intro w x ih hw
  have hw1 : Wd a w := fun y hy => hw y (by simp [hy])
  have hw2 : Wd b w := fun y hy => by have := hw1 y hy; unfold letN at this ⊢; rw [← hv]; exact this
  rw [runN_snoc, runN_snoc, runN_snoc, ih hw1, prod_step (runN_lt ha hs w hw1) (runN_lt hb ht w hw2) (hw x (by simp))]
theorem prod_acc {f : Bool → Bool → Bool} {a b : DFA} (ha : Val a) (hb : Val b) (hv : a.vars = b.vars) {w : List Nat} (hw : Wd a w) : acc (prodD f a b) w = f (acc a w) (acc b w) := by
  have a0 := start_lt ha; have b0 := start_lt hb
  have hw2 : Wd b w := fun y hy => by have := hw y hy; unfold letN at this ⊢; rw [← hv]; exact this
  unfold acc
  rw [show (prodD f a b).start.toNat = a.start.toNat * b.next.length + b.start.toNat from Int.toNat_natCast _, prod_run ha hb hv a0 b0 w hw, prod_fin (runN_lt ha a0 w hw) (runN_lt hb b0 w hw2)]
def opD (f : Bool → Bool → Bool) (a b : DFA) : DFA := minD (prodD f a b)
theorem opD_valid {f : Bool → Bool → Bool} {a b : DFA} (ha : Val a) (hb : Val b) (hv : a.vars = b.vars) (hn : a.next.length * b.next.length ≤ 4096) : Valid (opD f a b) := minD_valid (prod_valid ha hb hv hn)
theorem opD_acc {f : Bool → Bool → Bool} {a b : DFA} (ha : Val a) (hb : Val b) (hv : a.vars = b.vars) (hn : a.next.length * b.next.length ≤ 4096) {w : List Nat} (hw : Wd a w) : acc (opD f a b) w = f (acc a w) (acc b w) := by
  unfold opD; rw [minD_acc (prod_val ha hb hv) hw, prod_acc ha hb hv hw]
theorem opD_min {f : Bool → Bool → Bool} {a b : DFA} (ha : Val a) (hb : Val b) (hv : a.vars = b.vars) (hn : a.next.length * b.next.length ≤ 4096) : minD (opD f a b) = opD f a b := minD_min (prod_val ha hb hv)
theorem opD_accW {f : Bool → Bool → Bool} {a b : DFA} (ha : Val a) (hb : Val b) (hv : a.vars = b.vars) {w : List Nat} (hw : Wd a w) : acc (opD f a b) w = f (acc a w) (acc b w) := by
  unfold opD; rw [minD_acc (prod_val ha hb hv) hw, prod_acc ha hb hv hw]
theorem opD_minW {f : Bool → Bool → Bool} {a b : DFA} (ha : Val a) (hb : Val b) (hv : a.vars = b.vars) : minD (opD f a b) = opD f a b := minD_min (prod_val ha hb hv)
theorem minD_len {d : DFA} (hv : Val d) : (minD d).next.length ≤ d.next.length := by
  have h1 : (minD d).next.length ≤ (quoD d).next.length := by
    show (renum (quoD d)).next.length ≤ _
    unfold renum
    rw [List.length_map]; exact order_len (quoD_val hv)
  have h2 := (quoN_len d (itF d d.next.length) d.next.length).2
  exact Nat.le_trans h1 h2
theorem opD_len {f : Bool → Bool → Bool} {a b : DFA} (ha : Val a) (hb : Val b) (hv : a.vars = b.vars) (hn : a.next.length * b.next.length ≤ 4096) : (opD f a b).next.length ≤ a.next.length * b.next.length := by
  rw [← prod_len f a b]; exact minD_len (prod_val ha hb hv)
end Go.Lx


namespace Go.Lx
set_option linter.unusedVariables false
theorem dif_short {d : DFA} (hv : Val d) {s t : Nat} (hs : s < d.next.length) (ht : t < d.next.length) (m : Nat) (h : dif d m s t = true) : dif d (d.next.length - 1) s t = true := by
  have hn := hv.n0
  have key : itF d (d.next.length - 1) = itF d d.next.length := by
    rcases itF_grow hv (d.next.length - 1) with ⟨j, hj, h⟩ | h
    · have hst : refineF d (itF d j) = itF d j := by rw [← itF]; exact h
      rw [itF_stable hst _ (show j ≤ d.next.length - 1 by omega), itF_stable hst _ (show j ≤ d.next.length by omega)]
    · obtain ⟨h1, h2⟩ := clsN_step hv (d.next.length - 1)
      have h3 := clsN_le d (d.next.length - 1 + 1)
      have h4 := h2 (by omega)
      rw [show d.next.length - 1 + 1 = d.next.length by omega] at h4
      exact h4.symm
  rcases Bool.eq_false_or_eq_true (dif d (d.next.length - 1) s t) with hh | hh
  · exact hh
  · rw [← itF_iff hv _ s t hs ht, key] at hh
    have h5 : dif d (max m d.next.length) s t = true := dif_mono (by omega) h
    have h6 := (itF_iff hv (max m d.next.length) s t hs ht).1 (by rw [itF_stab hv _ (by omega)]; exact hh)
    rw [h6] at h5; cases h5
theorem Tell.lt {d : DFA} (hv : Val d) {s t : Nat} (hs : s < d.next.length) (ht : t < d.next.length) {u : List Nat} (h : Tell d s t (some u)) : u.length < d.next.length := by
  have h : IsLeast d s t u := h
  have hd := dif_short hv hs ht u.length ((dif_iff d _ s t).2 ⟨u, h.wd, Nat.le_refl _, h.dst⟩)
  obtain ⟨w, h1, h2, h3⟩ := (dif_iff d _ s t).1 hd
  have := code_len u w (hv.wd64 h.wd) (hv.wd64 h1) (h.le w h1 h3)
  have := hv.n0
  omega
theorem minD_apart {d : DFA} (hv : Val d) {p q : Nat} (hp : p < (minD d).next.length) (hq : q < (minD d).next.length) {res : Option (List Nat)} (h : Tell (minD d) p q res) : res.isSome = true ↔ p ≠ q := by
  have hQ := quoD_val hv
  have hpo : p < (order (quoD d)).length := by simpa [minD, renum, quoD] using hp
  have hqo : q < (order (quoD d)).length := by simpa [minD, renum, quoD] using hq
  constructor
  · intro hs e
    subst e
    cases res with
    | none => cases hs
    | some u => exact (show IsLeast (minD d) p p u from h).dst rfl
  · intro hne
    cases res with
    | some u => rfl
    | none =>
      exfalso
      have hnd : (order (quoD d)).Nodup := (bfsN_ok hQ _).1
      have hix : ∀ i (hi : i < (order (quoD d)).length), ix (order (quoD d))[i] (order (quoD d)) = i := fun i hi => by
        have g := ix_get (List.getElem_mem hi)
        exact (List.getElem_inj (h₀ := ix_lt (List.getElem_mem hi)) (h₁ := hi) hnd).1 (Option.some.inj (by rw [← List.getElem?_eq_getElem, g]))
      obtain ⟨a, ha, hac, _, _⟩ := quoD_at hv (order_lt hQ _ (List.getElem_mem hpo))
      obtain ⟨b, hb, hbc, _, _⟩ := quoD_at hv (order_lt hQ _ (List.getElem_mem hqo))
      have hab : clsOf d a = clsOf d b := by
        rw [clsOf_iff hv ha hb]
        intro u hu hd
        have hn := (show ∀ u, Wd (minD d) u → ¬ dst (minD d) p q u from h) u hu
        apply hn
        have r1 := renum_run hQ (List.getElem_mem hpo) u hu
        have r2 := renum_run hQ (List.getElem_mem hqo) u hu
        rw [hix p hpo] at r1
        rw [hix q hqo] at r2
        unfold dst at *
        show finN (renum (quoD d)) (runN (renum (quoD d)) p u) ≠ finN (renum (quoD d)) (runN (renum (quoD d)) q u)
        rw [r1, r2, renum_fin (order_run hQ (List.getElem_mem hpo) u hu), renum_fin (order_run hQ (List.getElem_mem hqo) u hu), ← hac, ← hbc, quoD_run hv ha u hu, quoD_run hv hb u hu, quoD_fin hv (runN_lt hv ha u hu), quoD_fin hv (runN_lt hv hb u hu)]
        exact hd
      rw [hac, hbc] at hab
      exact hne ((List.getElem_inj (h₀ := hpo) (h₁ := hqo) hnd).1 hab)
end Go.Lx


namespace Go.Lx
set_option linter.unusedVariables false
def both (a b : DFA) : DFA := ⟨a.vars, a.start, a.next ++ b.next.map fun r => r.map fun x => (a.next.length : Int) + x, a.final ++ b.final⟩
theorem both_len (a b : DFA) : (both a b).next.length = a.next.length + b.next.length := by simp [both]
theorem both_valid {a b : DFA} (ha : Valid a) (hb : Valid b) (hv : a.vars = b.vars) (hn : a.next.length + b.next.length ≤ 4096) : Valid (both a b) := by
  refine ⟨⟨ha.v0, ha.v6, ?_, ?_, ha.s0, ?_, ?_, ?_⟩, by rw [both_len]; exact hn⟩
  · rw [both_len]; have := ha.n0; omega
  · rw [both_len]; show (a.final ++ b.final).length = _; rw [List.length_append, ha.fin, hb.fin]
  · rw [both_len]; show a.start < _; have := ha.s1; omega
  · intro r hr
    rcases List.mem_append.1 hr with hr | hr
    · exact ha.len r hr
    · obtain ⟨r', hr', rfl⟩ := List.mem_map.1 hr
      rw [List.length_map, hb.len r' hr']
      show 2 ^ b.vars.toNat = 2 ^ a.vars.toNat
      rw [hv]
  · intro r hr x hx
    rw [both_len]
    rcases List.mem_append.1 hr with hr | hr
    · have := ha.ok r hr x hx; omega
    · obtain ⟨r', hr', rfl⟩ := List.mem_map.1 hr
      obtain ⟨y, hy, rfl⟩ := List.mem_map.1 hx
      have := hb.ok r' hr' y hy
      omega
theorem both_left {a b : DFA} (ha : Valid a) {s : Nat} (hs : s < a.next.length) : finN (both a b) s = finN a s ∧ ∀ x, x < letN a → toN (both a b) s x = toN a s x := by
  have hf : s < a.final.length := by rw [ha.fin]; exact hs
  refine ⟨?_, fun x hx => ?_⟩
  · show (a.final ++ b.final).getD s false = _
    rw [List.getD_eq_getElem?_getD, List.getElem?_append_left hf, finN, List.getD_eq_getElem?_getD]
  · have e : (both a b).next.getD s [] = a.next.getD s [] := by
      show (a.next ++ _).getD s [] = _
      simp [List.getD_eq_getElem?_getD, List.getElem?_append_left hs]
    unfold toN
    rw [e]
theorem both_right {a b : DFA} (ha : Valid a) (hb : Valid b) (hv : a.vars = b.vars) {t : Nat} (ht : t < b.next.length) : finN (both a b) (a.next.length + t) = finN b t ∧ ∀ x, x < letN a → toN (both a b) (a.next.length + t) x = a.next.length + toN b t x := by
  refine ⟨?_, fun x hx => ?_⟩
  · show (a.final ++ b.final).getD _ false = _
    rw [List.getD_eq_getElem?_getD, List.getElem?_append_right (by rw [ha.fin]; omega), ha.fin, finN, List.getD_eq_getElem?_getD, Nat.add_sub_cancel_left]
  · have hxb : x < letN b := by unfold letN at *; rw [← hv]; exact hx
    have hl : b.next[t].length = letN b := hb.len _ (List.getElem_mem ht)
    have hx' : x < b.next[t].length := by omega
    have hok := hb.ok _ (List.getElem_mem ht) _ (List.getElem_mem hx')
    have e : (both a b).next.getD (a.next.length + t) [] = b.next[t].map fun x => (a.next.length : Int) + x := by
      show (a.next ++ _).getD _ [] = _
      rw [List.getD_eq_getElem?_getD, List.getElem?_append_right (by omega), Nat.add_sub_cancel_left]
      simp [ht]
    unfold toN
    rw [e]
    simp [ht, hx', List.getD_eq_getElem?_getD]
    omega
theorem both_runL {a b : DFA} (ha : Valid a) {s : Nat} (hs : s < a.next.length) : ∀ w, Wd a w → runN (both a b) s w = runN a s w := by
  refine snocInd (fun _ => rfl) ?_
  intro w x ih hw
  have hw' : Wd a w := fun y hy => hw y (by simp [hy])
  rw [runN_snoc, runN_snoc, ih hw', (both_left ha (runN_lt ha hs w hw')).2 x (hw x (by simp))]
theorem both_runR {a b : DFA} (ha : Valid a) (hb : Valid b) (hv : a.vars = b.vars) {t : Nat} (ht : t < b.next.length) : ∀ w, Wd a w → runN (both a b) (a.next.length + t) w = a.next.length + runN b t w := by
  refine snocInd (fun _ => rfl) ?_
  intro w x ih hw
  have hw' : Wd a w := fun y hy => hw y (by simp [hy])
  have hwb : Wd b w := fun y hy => by have := hw' y hy; unfold letN at *; rw [← hv]; exact this
  rw [runN_snoc, runN_snoc, ih hw', (both_right ha hb hv (runN_lt hb ht w hwb)).2 x (hw x (by simp))]
theorem both_dst {a b : DFA} (ha : Valid a) (hb : Valid b) (hv : a.vars = b.vars) {w : List Nat} (hw : Wd a w) : dst (both a b) a.start.toNat (a.next.length + b.start.toNat) w ↔ acc a w ≠ acc b w := by
  have hwb : Wd b w := fun y hy => by have := hw y hy; unfold letN at *; rw [← hv]; exact this
  unfold dst acc
  rw [both_runL ha (start_lt ha) w hw, both_runR ha hb hv (start_lt hb) w hw, (both_left ha (runN_lt ha (start_lt ha) w hw)).1, (both_right ha hb hv (runN_lt hb (start_lt hb) w hwb)).1]
end Go.Lx


namespace Go.Lx
open Go.RowKit
set_option linter.unusedVariables false
def stayD (v : Int) (f : Bool) : DFA := ⟨v, 0, [List.replicate (2 ^ v.toNat) 0], [f]⟩
theorem stay_valid {v : Int} (h0 : 0 ≤ v) (h6 : v ≤ 6) (f : Bool) : Valid (stayD v f) := by
  have n0 : 0 < (stayD v f).next.length := by show 0 < [_].length; simp
  have s1 : (stayD v f).start < ((stayD v f).next.length : Int) := by show (0 : Int) < (([_].length : Nat) : Int); simp
  have len : ∀ r ∈ (stayD v f).next, r.length = 2 ^ (stayD v f).vars.toNat := by
    intro r hr
    rw [List.mem_singleton.1 (show r ∈ [List.replicate (2 ^ v.toNat) (0 : Int)] from hr), List.length_replicate]; rfl
  have ok : ∀ r ∈ (stayD v f).next, ∀ x ∈ r, 0 ≤ x ∧ x < ((stayD v f).next.length : Int) := by
    intro r hr x hx
    rw [List.mem_singleton.1 (show r ∈ [List.replicate (2 ^ v.toNat) (0 : Int)] from hr)] at hx
    rw [List.eq_of_mem_replicate hx]
    exact ⟨Int.le_refl _, by show (0 : Int) < (([_].length : Nat) : Int); simp⟩
  exact ⟨{ v0 := h0, v6 := h6, n0 := n0, fin := rfl, s0 := Int.le_refl _, s1 := s1, len := len, ok := ok }, by show [_].length ≤ 4096; simp⟩
theorem stay_acc {v : Int} (h0 : 0 ≤ v) (h6 : v ≤ 6) (f : Bool) {w : List Nat} (hw : Wd (stayD v f) w) : acc (stayD v f) w = f := by
  have hv := stay_valid h0 h6 f
  have h1 := runN_lt hv (start_lt hv) w hw
  have h2 : runN (stayD v f) (stayD v f).start.toNat w = 0 := Nat.lt_one_iff.1 h1
  unfold acc; rw [h2]; rfl
def LeastA (d : DFA) : Option (List Nat) → Prop
  | some w => Wd d w ∧ acc d w = true ∧ ∀ u, Wd d u → acc d u = true → code w ≤ code u
  | none => ∀ u, Wd d u → acc d u = false
theorem LeastA.unique {d : DFA} (hv : Valid d) {a b : Option (List Nat)} (ha : LeastA d a) (hb : LeastA d b) : a = b := by
  cases a with
  | none =>
    cases b with
    | none => rfl
    | some w => have := ha w hb.1; rw [hb.2.1] at this; cases this
  | some w =>
    cases b with
    | none => have := hb w ha.1; rw [ha.2.1] at this; cases this
    | some u =>
      have h1 := ha.2.2 u hb.1 hb.2.1
      have h2 := hb.2.2 w ha.1 ha.2.1
      rw [code_inj w u (hv.wd64 ha.1) (hv.wd64 hb.1) (Nat.le_antisymm h1 h2)]
theorem LeastA.congr {d e : DFA} (hv : d.vars = e.vars) (h : ∀ w, Wd d w → acc d w = acc e w) {r : Option (List Nat)} (hr : LeastA d r) : LeastA e r := by
  have hwd : ∀ w, Wd e w → Wd d w := fun w hw y hy => by have := hw y hy; unfold letN at *; rw [hv]; exact this
  have hwe : ∀ w, Wd d w → Wd e w := fun w hw y hy => by have := hw y hy; unfold letN at *; rw [← hv]; exact this
  cases r with
  | none => exact fun u hu => by rw [← h u (hwd u hu)]; exact hr u (hwd u hu)
  | some w => exact ⟨hwe w hr.1, by rw [← h w hr.1]; exact hr.2.1, fun u hu hau => hr.2.2 u (hwd u hu) (by rw [h u (hwd u hu)]; exact hau)⟩
end Go.Lx


namespace Go.Lx
open Go.RowKit
set_option linter.unusedVariables false
def WdV (v : Int) (w : List Nat) : Prop := ∀ x ∈ w, x < 2 ^ v.toNat
structure HasL (v : Int) (n : Nat) (d : DFA) (p : List Nat → Bool) : Prop where
  valid : Valid d
  len : d.next.length ≤ n
  vars : d.vars = v
  acc : ∀ w, WdV v w → acc d w = p w
theorem HasL.of {d : DFA} {n : Nat} (h : Valid d) (hl : d.next.length ≤ n) : HasL d.vars n d (Lx.acc d) := ⟨h, hl, rfl, fun _ _ => rfl⟩
theorem HasL.wd {v : Int} {n : Nat} {d : DFA} {p : List Nat → Bool} (h : HasL v n d p) {w : List Nat} : Wd d w ↔ WdV v w := by unfold Wd WdV letN; rw [h.vars]
structure MinL (v : Int) (n : Nat) (d : DFA) (p : List Nat → Bool) : Prop extends HasL v n d p where
  min : minD d = d
theorem HasL.op {f : Bool → Bool → Bool} {v : Int} {n m : Nat} {a b : DFA} {p q : List Nat → Bool} (ha : HasL v n a p) (hb : HasL v m b q) (h : n * m ≤ 4096) : MinL v (n * m) (opD f a b) (fun w => f (p w) (q w)) := by
  have hl : a.next.length * b.next.length ≤ n * m := Nat.mul_le_mul ha.len hb.len
  have hv : a.vars = b.vars := by rw [ha.vars, hb.vars]
  refine ⟨⟨opD_valid ha.valid hb.valid hv (by omega), Nat.le_trans (opD_len ha.valid hb.valid hv (by omega)) hl, ha.vars, fun w hw => ?_⟩, opD_min ha.valid hb.valid hv (by omega)⟩
  rw [opD_acc ha.valid hb.valid hv (by omega) (ha.wd.2 hw), ha.acc w hw, hb.acc w hw]
theorem HasL.minim {v : Int} {n : Nat} {d : DFA} {p : List Nat → Bool} (h : HasL v n d p) : MinL v n (minD d) p :=
  ⟨⟨minD_valid h.valid, Nat.le_trans (minD_len h.valid) h.len, h.vars, fun w hw => by rw [minD_acc h.valid (h.wd.2 hw)]; exact h.acc w hw⟩, minD_min h.valid⟩
def andB (x y : Bool) : Bool := x && y
def minusB (x y : Bool) : Bool := x && !y
def notB (x _y : Bool) : Bool := !x
def notD (d : DFA) : DFA := opD notB d d
theorem HasL.not {v : Int} {n : Nat} {d : DFA} {p : List Nat → Bool} (h : HasL v n d p) (hn : n * n ≤ 4096) : MinL v (n * n) (notD d) (fun w => !p w) := h.op h hn
end Go.Lx


namespace Go.Lx
open Go.RowKit
set_option linter.unusedVariables false
end Go.Lx


namespace Go.Lx
open Go.RowKit
set_option linter.unusedVariables false
theorem pr_toN_lt {f : Bool → Bool → Bool} {a b : DFA} (ha : Val a) (hb : Val b) (hv : a.vars = b.vars) {o x : Nat} (ho : o < a.next.length * b.next.length) (hx : x < letN a) :
    toN (prodD f a b) o x = toN a (o / b.next.length) x * b.next.length + toN b (o % b.next.length) x ∧ toN (prodD f a b) o x < a.next.length * b.next.length := by
  obtain ⟨h1, h2⟩ := pr_split ho
  have h3 := prod_step (f := f) (a := a) (b := b) h1 h2 hx
  rw [Nat.div_add_mod'] at h3
  refine ⟨h3, ?_⟩
  rw [h3]
  exact pr_lt (ha.toN_lt h1 hx).1 (hb.toN_lt h2 (by rw [← hv]; exact hx)).1
theorem pr_bfs_ok {f : Bool → Bool → Bool} {a b : DFA} (ha : Val a) (hb : Val b) (hv : a.vars = b.vars) : ∀ i, (bfsN (prodD f a b) i).Nodup ∧ ∀ o ∈ bfsN (prodD f a b) i, o < a.next.length * b.next.length
  | 0 => by
    refine ⟨by simp [bfsN], fun o ho => ?_⟩
    simp only [bfsN, List.mem_singleton] at ho
    rw [ho, show (prodD f a b).start.toNat = a.start.toNat * b.next.length + b.start.toNat from Int.toNat_natCast _]
    exact pr_lt (start_lt ha) (start_lt hb)
  | i + 1 => by
    obtain ⟨h1, h2⟩ := pr_bfs_ok ha hb hv i
    rw [bfsN]
    split
    · rename_i hi
      refine foldl_add_ok _ _ h1 h2 (fun t ht => ?_)
      obtain ⟨x, hx, rfl⟩ := List.mem_map.1 ht
      refine (pr_toN_lt ha hb hv (h2 _ ?_) (List.mem_range.1 hx)).2
      rw [List.getD_eq_getElem?_getD, List.getElem?_eq_getElem hi]
      exact List.getElem_mem hi
    · exact ⟨h1, h2⟩
theorem pr_bfs_len {f : Bool → Bool → Bool} {a b : DFA} (ha : Val a) (hb : Val b) (hv : a.vars = b.vars) (i : Nat) : (bfsN (prodD f a b) i).length ≤ a.next.length * b.next.length := nodup_bound (pr_bfs_ok ha hb hv i).1 (pr_bfs_ok ha hb hv i).2
end Go.Lx


namespace Go.Lx
open Go.RowKit
set_option linter.unusedVariables false
def Det (z a : DFA) : Prop := ∀ u u', WdV z.vars u → WdV z.vars u' → runN z z.start.toNat u = runN z z.start.toNat u' → runN a a.start.toNat u = runN a a.start.toNat u'
def Fac (z : DFA) (p : List Nat → Bool) : Prop := ∀ u u' w, WdV z.vars u → WdV z.vars u' → WdV z.vars w → runN z z.start.toNat u = runN z z.start.toNat u' → p (u ++ w) = p (u' ++ w)
theorem runN_append (d : DFA) (s : Nat) (u w : List Nat) : runN d s (u ++ w) = runN d (runN d s u) w := by simp [runN]
theorem WdV.append {v : Int} {u w : List Nat} (hu : WdV v u) (hw : WdV v w) : WdV v (u ++ w) := fun x hx => (List.mem_append.1 hx).elim (hu x) (hw x)
theorem wd_wdV {d : DFA} {w : List Nat} : Wd d w ↔ WdV d.vars w := Iff.rfl
theorem Det.refl (z : DFA) : Det z z := fun _ _ _ _ h => h
theorem Det.fac {z a : DFA} {n : Nat} {p : List Nat → Bool} (h : Det z a) (ha : HasL z.vars n a p) : Fac z p := fun u u' w hu hu' hw e => by
  rw [← ha.acc _ (hu.append hw), ← ha.acc _ (hu'.append hw)]
  unfold acc
  rw [runN_append, runN_append, h u u' hu hu' e]
theorem Fac.op {z : DFA} {p q : List Nat → Bool} (f : Bool → Bool → Bool) (hp : Fac z p) (hq : Fac z q) : Fac z (fun w => f (p w) (q w)) := fun u u' w hu hu' hw e => by
  show f _ _ = f _ _
  rw [hp u u' w hu hu' hw e, hq u u' w hu hu' hw e]
theorem Det.trans {z y a : DFA} (hv : z.vars = y.vars) (h : Det z y) (h2 : Det y a) : Det z a := fun u u' hu hu' e => h2 u u' (hv ▸ hu) (hv ▸ hu') (h u u' hu hu' e)
theorem Fac.det {z a : DFA} {n : Nat} {p : List Nat → Bool} (h : Fac z p) (ha : MinL z.vars n a p) : Det z a := fun u u' hu hu' e => by
  have hva := ha.valid
  have wu : Wd a u := ha.wd.2 hu
  have wu' : Wd a u' := ha.wd.2 hu'
  have hs := runN_lt hva (start_lt hva) u wu
  have ht := runN_lt hva (start_lt hva) u' wu'
  refine Classical.byContradiction fun hne => ?_
  have hT : Tell (minD a) (runN a a.start.toNat u) (runN a a.start.toNat u') none := fun w hw hd => by
    rw [ha.min] at hw hd
    refine hd ?_
    have hwv : WdV z.vars w := ha.wd.1 hw
    have := h u u' w hu hu' hwv e
    rw [← ha.acc _ (hu.append hwv), ← ha.acc _ (hu'.append hwv)] at this
    unfold acc at this
    rw [runN_append, runN_append] at this
    exact this
  have := (minD_apart hva (by rw [ha.min]; exact hs) (by rw [ha.min]; exact ht) hT).2 hne
  exact absurd this (by simp)
theorem order_fact {d z : DFA} (hd : Val d) (hz : Val z) (hv : z.vars = d.vars) (h : Det z d) : (order d).length ≤ z.next.length := by
  classical
  have hr : ∀ o ∈ order d, ∃ w, Wd d w ∧ runN d d.start.toNat w = o := fun o ho => bfsN_reach hd _ o ho
  let g : Nat → Nat := fun o => if hx : ∃ w, Wd d w ∧ runN d d.start.toNat w = o then runN z z.start.toNat (Classical.choose hx) else 0
  have hg : ∀ o ∈ order d, ∃ w, Wd d w ∧ runN d d.start.toNat w = o ∧ g o = runN z z.start.toNat w := fun o ho => by
    have hx := hr o ho
    refine ⟨Classical.choose hx, (Classical.choose_spec hx).1, (Classical.choose_spec hx).2, ?_⟩
    show (if hx : _ then _ else _) = _
    rw [dif_pos hx]
  have wz : ∀ w, Wd d w → WdV z.vars w := fun w hw => by rw [hv]; exact hw
  have hn : ((order d).map g).Nodup := map_nodup (bfsN_ok hd _).1 fun a ha b hb e => by
    obtain ⟨u, hu, rfl, e1⟩ := hg a ha
    obtain ⟨u', hu', rfl, e2⟩ := hg b hb
    exact h u u' (wz u hu) (wz u' hu') (by rw [← e1, ← e2, e])
  have := nodup_bound (n := z.next.length) hn fun x hx => by
    obtain ⟨o, ho, rfl⟩ := List.mem_map.1 hx
    obtain ⟨u, hu, _, e1⟩ := hg o ho
    rw [e1]
    exact runN_lt hz (start_lt hz) u (wz u hu)
  simpa using this
theorem pr_order_factW {f : Bool → Bool → Bool} {a b z : DFA} (ha : Val a) (hb : Val b) (hv : a.vars = b.vars) (hz : Val z) (hzv : z.vars = a.vars) (h1 : Det z a) (h2 : Det z b) : (order (prodD f a b)).length ≤ z.next.length := by
  refine order_fact (prod_val ha hb hv) hz hzv fun u u' hu hu' e => ?_
  rw [show (prodD f a b).start.toNat = a.start.toNat * b.next.length + b.start.toNat from Int.toNat_natCast _,
    prod_run ha hb hv (start_lt ha) (start_lt hb) u (by rw [wd_wdV, ← hzv]; exact hu), prod_run ha hb hv (start_lt ha) (start_lt hb) u' (by rw [wd_wdV, ← hzv]; exact hu'), h1 u u' hu hu' e, h2 u u' hu hu' e]
theorem pr_order_le {f : Bool → Bool → Bool} {a b : DFA} (ha : Val a) (hb : Val b) (hv : a.vars = b.vars) : (order (prodD f a b)).length ≤ a.next.length * b.next.length := pr_bfs_len ha hb hv _
end Go.Lx


namespace Go.Lx
open Go.RowKit
set_option linter.unusedVariables false
def wrongD (a b : DFA) : Nat := if checkD a ≠ 0 then checkD a else if checkD b ≠ 0 then checkD b else if a.vars ≠ b.vars then 7 else 0
theorem wrongD_zero {a b : DFA} : wrongD a b = 0 ↔ Valid a ∧ Valid b ∧ a.vars = b.vars := by
  unfold wrongD
  rw [← checkD_zero, ← checkD_zero]
  split
  · rename_i h; constructor
    · intro e; exact absurd e h
    · intro e; exact absurd e.1 h
  · rename_i h1; split
    · rename_i h; constructor
      · intro e; exact absurd e h
      · intro e; exact absurd e.2.1 h
    · rename_i h2; split
      · rename_i h; constructor
        · intro e; exact absurd e (by decide)
        · intro e; exact absurd e.2.2 h
      · rename_i h; constructor
        · intro _; exact ⟨by omega, by omega, Classical.not_not.1 h⟩
        · intro _; rfl
def un (n c : Nat) : Int × Int := (((c / n : Nat) : Int), ((c % n : Nat) : Int))
theorem itms_snoc (E : TypeId) (qs : List Rec) (r : Rec) : itms E (qs ++ [r]) = itms E qs ++ [r.itm E] := List.map_append
theorem Sub.fold (A : List Item) (x : Item) (B S S' : List Item) (h : S' = S ++ [x]) : Sub ((A ++ S') ++ B) ((A ++ (x :: B)) ++ S) := by
  subst h
  refine ⟨_, ?_, List.Sublist.refl _⟩
  have h1 : (A ++ (S ++ [x])) ++ B = A ++ (S ++ (x :: B)) := by simp
  have h2 : (A ++ (x :: B)) ++ S = A ++ ((x :: B) ++ S) := by simp
  rw [h1, h2]
  exact List.Perm.append_left A List.perm_append_comm
end Go.Lx


namespace Go.Lx
open Go.RowKit
set_option linter.unusedVariables false
def InclA (a b : DFA) (r : Option (List Nat)) : Prop := if wrongD a b = 0 then LeastA (opD minusB a b) r else r = none
theorem InclA.unique {a b : DFA} (hn : wrongD a b = 0 → a.next.length * b.next.length ≤ 4096) {r s : Option (List Nat)} (h : InclA a b r) (h2 : InclA a b s) : r = s := by
  unfold InclA at h h2
  by_cases hw : wrongD a b = 0
  · rw [if_pos hw] at h h2
    obtain ⟨va, vb, hv⟩ := wrongD_zero.1 hw
    exact h.unique (opD_valid va vb hv (hn hw)) h2
  · rw [if_neg hw] at h h2; rw [h, h2]
theorem InclA.ok {a b : DFA} (hw : wrongD a b = 0) {r : Option (List Nat)} : InclA a b r ↔ LeastA (opD minusB a b) r := by unfold InclA; rw [if_pos hw]
def AllOk : DFA → List DFA → Prop
  | _, [] => True
  | d, x :: l => wrongD d x = 0 → d.next.length * x.next.length ≤ 64 ∧ AllOk (opD andB d x) l
theorem AllOk.at {d : DFA} {l : List DFA} {i : Nat} (h : i < l.length) (ha : AllOk d (l.drop i)) (hw : wrongD d l[i] = 0) : d.next.length * l[i].next.length ≤ 64 ∧ AllOk (opD andB d l[i]) (l.drop (i + 1)) := by
  rw [List.drop_eq_getElem_cons h] at ha
  exact ha hw
theorem Sub.foldN (A : List Item) (x : Item) (S S' : List Item) (h : S' = S ++ [x]) : Sub (A ++ S') ((A ++ [x]) ++ S) := by
  have := Sub.fold A x [] S S' h
  rwa [List.append_nil] at this
end Go.Lx


namespace Go.Lx
open Go.RowKit
set_option linter.unusedVariables false
end Go.Lx


namespace Go.Lx
open Go.RowKit
set_option linter.unusedVariables false
structure Sh (d : DFA) : Prop where
  n8 : d.next.length ≤ 8
  f40 : d.final.length ≤ 40
  r100 : ∀ r ∈ d.next, r.length ≤ 100
theorem Sh.b1 {d : DFA} (h : Sh d) : d.next.length < 9223372036854775807 := by have := h.n8; omega
theorem Sh.b2 {d : DFA} (h : Sh d) : ∀ r ∈ d.next, r.length < 9223372036854775807 := fun r hr => by have := h.r100 r hr; omega
theorem Sh.b3 {d : DFA} (h : Sh d) : d.final.length < 9223372036854775807 := by have := h.f40; omega
theorem Sh.mul {a b : DFA} (ha : Sh a) (hb : Sh b) : a.next.length * b.next.length ≤ 64 := Nat.mul_le_mul ha.n8 hb.n8
theorem Sh.small {a b : DFA} (ha : Sh a) (hb : Sh b) : wrongD a b = 0 → a.next.length * b.next.length ≤ 4096 ∧ ∀ f, (order (prodD f a b)).length < 10000 := fun hw => by
  obtain ⟨va, vb, hv⟩ := wrongD_zero.1 hw
  have := ha.mul hb
  exact ⟨by omega, fun f => Nat.lt_of_le_of_lt (pr_order_le va vb hv) (by omega)⟩
theorem Sh.has {d : DFA} (h : Sh d) (hv : Valid d) : HasL d.vars 8 d (acc d) := HasL.of hv h.n8
theorem HasL.small {f : Bool → Bool → Bool} {v : Int} {n m : Nat} {a b : DFA} {p q : List Nat → Bool} (ha : HasL v n a p) (hb : HasL v m b q) (h : n * m < 10000) : (order (prodD f a b)).length < 10000 :=
  Nat.lt_of_le_of_lt (pr_order_le ha.valid hb.valid (by rw [ha.vars, hb.vars])) (Nat.lt_of_le_of_lt (Nat.mul_le_mul ha.len hb.len) h)
theorem HasL.le {v : Int} {n m : Nat} {a : DFA} {p : List Nat → Bool} (ha : HasL v n a p) (h : a.next.length ≤ m) : HasL v m a p := ⟨ha.valid, h, ha.vars, ha.acc⟩
end Go.Lx


namespace Go.Lx
open Go.RowKit
set_option linter.unusedVariables false
theorem HasL.v6 {v : Int} {n : Nat} {d : DFA} {p : List Nat → Bool} (h : HasL v n d p) : 2 ^ v.toNat ≤ 64 := by
  have := h.valid.width; rw [h.vars] at this; exact this
theorem WdV.lt {v : Int} {w : List Nat} (h : WdV v w) (h6 : 2 ^ v.toNat ≤ 64) : ∀ x ∈ w, x < 64 := fun x hx => by have := h x hx; omega
theorem LeastA.lt {m : DFA} (hm : Valid m) (hn : m.next.length + 1 ≤ 4096) {u : List Nat} (h : LeastA m (some u)) : u.length ≤ m.next.length := by
  have hs := stay_valid hm.v0 hm.v6 false
  have hd : ∀ w, Wd m w → (dst (both m (stayD m.vars false)) m.start.toNat m.next.length w ↔ acc m w = true) := fun w hw => by
    have h1 := both_dst (a := m) (b := stayD m.vars false) hm hs rfl hw
    rw [show m.next.length + (stayD m.vars false).start.toNat = m.next.length from rfl] at h1
    rw [h1, stay_acc hm.v0 hm.v6 false (show Wd (stayD m.vars false) w from hw)]
    cases acc m w <;> simp
  obtain ⟨h1, h2, h3⟩ := h
  have hT : Tell (both m (stayD m.vars false)) m.start.toNat m.next.length (some u) := ⟨h1, (hd u h1).2 h2, fun x hx hxd => h3 x hx ((hd x hx).1 hxd)⟩
  have hlen := both_len m (stayD m.vars false)
  have h1' : (stayD m.vars false).next.length = 1 := rfl
  have := Tell.lt (both_valid hm hs rfl hn) (by rw [hlen]; have := start_lt hm.toVal; omega) (by rw [hlen]; omega) hT
  omega
end Go.Lx


namespace Go.Lx
open Go.RowKit
set_option linter.unusedVariables false
end Go.Lx


namespace Go.Lx
set_option linter.unusedVariables false
def wsN (d : DFA) : Nat → Nat → List (List Nat)
  | 0, s => if finN d s = true then [[]] else []
  | n + 1, s => (List.range (letN d)).flatMap fun x => (wsN d n (toN d s x)).map (x :: ·)
def cntN (d : DFA) (n s : Nat) : Nat := (wsN d n s).length
theorem cntN_zero (d : DFA) (s : Nat) : cntN d 0 s = if finN d s = true then 1 else 0 := by
  unfold cntN wsN; split <;> rfl
theorem cntN_succ (d : DFA) (n s : Nat) : cntN d (n + 1) s = ((List.range (letN d)).map fun x => cntN d n (toN d s x)).sum := by
  unfold cntN
  rw [show wsN d (n + 1) s = (List.range (letN d)).flatMap fun x => (wsN d n (toN d s x)).map (x :: ·) from rfl, List.length_flatMap]
  simp
theorem mem_wsN {d : DFA} : ∀ {n s : Nat} {u : List Nat}, u ∈ wsN d n s ↔ u.length = n ∧ Wd d u ∧ finN d (runN d s u) = true
  | 0, s, u => by
    unfold wsN
    constructor
    · intro h
      split at h
      · obtain rfl : u = [] := by simpa using h
        exact ⟨rfl, fun x hx => by (cases hx), by assumption⟩
      · cases h
    · rintro ⟨h1, _, h3⟩
      obtain rfl : u = [] := List.length_eq_zero_iff.1 h1
      rw [if_pos (show finN d s = true from h3)]; simp
  | n + 1, s, u => by
    rw [show wsN d (n + 1) s = (List.range (letN d)).flatMap fun x => (wsN d n (toN d s x)).map (x :: ·) from rfl, List.mem_flatMap]
    constructor
    · rintro ⟨x, hx, hu⟩
      obtain ⟨v, hv, rfl⟩ := List.mem_map.1 hu
      obtain ⟨h1, h2, h3⟩ := mem_wsN.1 hv
      refine ⟨by simp [h1], fun y hy => ?_, h3⟩
      rcases List.mem_cons.1 hy with rfl | hy
      · exact List.mem_range.1 hx
      · exact h2 y hy
    · rintro ⟨h1, h2, h3⟩
      cases u with
      | nil => cases h1
      | cons x v =>
        exact ⟨x, List.mem_range.2 (h2 x (by simp)), List.mem_map.2 ⟨v, mem_wsN.2 ⟨by simpa using h1, fun y hy => h2 y (by simp [hy]), h3⟩, rfl⟩⟩
theorem letN_le64 {d : DFA} (hv : Val d) : letN d ≤ 64 := by
  have h1 : d.vars.toNat ≤ 6 := by have := hv.v6; have := hv.v0; omega
  exact Nat.le_trans (Nat.pow_le_pow_right (by decide) h1) (by decide)
theorem Wd.lt64 {d : DFA} (hv : Val d) {u : List Nat} (h : Wd d u) : ∀ x ∈ u, x < 64 := fun x hx => Nat.lt_of_lt_of_le (h x hx) (letN_le64 hv)
def allW (d : DFA) (N : Nat) : List (List Nat) := (List.range N).flatMap fun n => wsN d n d.start.toNat
theorem mem_allW {d : DFA} {N : Nat} {u : List Nat} : u ∈ allW d N ↔ u.length < N ∧ Wd d u ∧ acc d u = true := by
  unfold allW
  rw [List.mem_flatMap]
  constructor
  · rintro ⟨n, hn, hu⟩
    obtain ⟨h1, h2, h3⟩ := mem_wsN.1 hu
    exact ⟨by rw [h1]; exact List.mem_range.1 hn, h2, h3⟩
  · rintro ⟨h1, h2, h3⟩
    exact ⟨u.length, List.mem_range.2 h1, mem_wsN.2 ⟨rfl, h2, h3⟩⟩
theorem code_lt_len {v u : List Nat} (hv : ∀ z ∈ v, z < 64) (hu : ∀ z ∈ u, z < 64) (h : v.length < u.length) : code v < code u := by
  rcases Nat.lt_or_ge (code v) (code u) with h1 | h1
  · exact h1
  · have := code_len u v hu hv h1; omega
theorem allW_snoc (d : DFA) (N : Nat) : allW d (N + 1) = allW d N ++ wsN d N d.start.toNat := by
  unfold allW; rw [List.range_succ, List.flatMap_append]; simp
def fromW (d : DFA) (n N : Nat) : List (List Nat) := (List.range' n (N - n)).flatMap fun n => wsN d n d.start.toNat
theorem fromW_zero (d : DFA) (N : Nat) : fromW d 0 N = allW d N := by unfold fromW allW; rw [Nat.sub_zero, List.range_eq_range']
theorem fromW_end {d : DFA} {n N : Nat} (h : N ≤ n) : fromW d n N = [] := by unfold fromW; rw [Nat.sub_eq_zero_of_le h]; rfl
theorem fromW_cons {d : DFA} {n N : Nat} (h : n < N) : fromW d n N = wsN d n d.start.toNat ++ fromW d (n + 1) N := by
  unfold fromW
  rw [show N - n = (N - (n + 1)) + 1 by omega, List.range'_succ, List.flatMap_cons]
theorem fromW_get {d : DFA} {n N k : Nat} (h : n < N) : (fromW d n N)[k]? = if k < cntN d n d.start.toNat then (wsN d n d.start.toNat)[k]? else (fromW d (n + 1) N)[k - cntN d n d.start.toNat]? := by
  rw [fromW_cons h, List.getElem?_append]; rfl
def lettW (d : DFA) (n s x : Nat) : List (List Nat) := (List.range' x (letN d - x)).flatMap fun x => (wsN d n (toN d s x)).map (x :: ·)
theorem lettW_zero (d : DFA) (n s : Nat) : lettW d n s 0 = wsN d (n + 1) s := by unfold lettW; rw [Nat.sub_zero, ← List.range_eq_range']; rfl
theorem lettW_end {d : DFA} {n s x : Nat} (h : letN d ≤ x) : lettW d n s x = [] := by unfold lettW; rw [Nat.sub_eq_zero_of_le h]; rfl
theorem lettW_cons {d : DFA} {n s x : Nat} (h : x < letN d) : lettW d n s x = (wsN d n (toN d s x)).map (x :: ·) ++ lettW d n s (x + 1) := by
  unfold lettW
  rw [show letN d - x = (letN d - (x + 1)) + 1 by omega, List.range'_succ, List.flatMap_cons]
theorem lettW_get {d : DFA} {n s x k : Nat} (h : x < letN d) : (lettW d n s x)[k]? = if k < cntN d n (toN d s x) then ((wsN d n (toN d s x))[k]?).map (x :: ·) else (lettW d n s (x + 1))[k - cntN d n (toN d s x)]? := by
  rw [lettW_cons h, List.getElem?_append, List.length_map, List.getElem?_map]; rfl
end Go.Lx


namespace Go.Lx
set_option linter.unusedVariables false
def Cg (a b : Nat) : Prop := a % 18446744073709551616 = b % 18446744073709551616
theorem Cg.rfl' {a : Nat} : Cg a a := rfl
theorem Cg.trans' {a b c : Nat} (h : Cg a b) (h2 : Cg b c) : Cg a c := Eq.trans h h2
theorem Cg.add {a b c e : Nat} (h : Cg a b) (h2 : Cg c e) : Cg (a + c) (b + e) := by
  unfold Cg at *
  rw [Nat.add_mod, h, h2, ← Nat.add_mod]
theorem Cg.mul {a b c e : Nat} (h : Cg a b) (h2 : Cg c e) : Cg (a * c) (b * e) := by
  unfold Cg at *
  rw [Nat.mul_mod, h, h2, ← Nat.mul_mod]
theorem Cg.mod {a : Nat} : Cg (a % 18446744073709551616) a := by unfold Cg; rw [Nat.mod_mod]
theorem Cg.cancel {a b c : Nat} (h : Cg (a + c) (b + c)) : Cg a b := by unfold Cg at *; omega
theorem Cg.lt {a b : Nat} (h : Cg a b) (hl : a < 18446744073709551616) : a = b % 18446744073709551616 := by unfold Cg at h; omega
def psum (d : DFA) (n s x : Nat) : Nat := ((List.range x).map fun y => cntN d n (toN d s y)).sum
theorem psum_zero (d : DFA) (n s : Nat) : psum d n s 0 = 0 := rfl
theorem psum_succ (d : DFA) (n s x : Nat) : psum d n s (x + 1) = psum d n s x + cntN d n (toN d s x) := by
  unfold psum; rw [List.range_succ, List.map_append, List.sum_append]; simp
theorem psum_full (d : DFA) (n s : Nat) : psum d n s (letN d) = cntN d (n + 1) s := (cntN_succ d n s).symm
theorem psum_mono (d : DFA) (n s : Nat) {x y : Nat} (h : x ≤ y) : psum d n s x ≤ psum d n s y := by
  induction h with
  | refl => exact Nat.le_refl _
  | step _ ih => rw [psum_succ]; omega
def dotC (p : List Nat) (c : Nat → Nat) : Nat → Nat
  | 0 => 0
  | n + 1 => dotC p c n + p.getD n 0 * c n
theorem dotC_set {p : List Nat} {c : Nat → Nat} {t v : Nat} (ht : t < p.length) : ∀ n, dotC (p.set t v) c n + (if t < n then p.getD t 0 * c t else 0) = dotC p c n + (if t < n then v * c t else 0)
  | 0 => by simp [dotC]
  | n + 1 => by
    have ih := dotC_set (c := c) (v := v) ht n
    simp only [dotC]
    by_cases e : t = n
    · subst e
      have h1 : (p.set t v).getD t 0 = v := by rw [List.getD_eq_getElem?_getD, List.getElem?_set_self ht]; rfl
      rw [h1, if_pos (by omega), if_pos (by omega)]
      rw [if_neg (by omega), if_neg (by omega)] at ih
      omega
    · have h1 : (p.set t v).getD n 0 = p.getD n 0 := by rw [List.getD_eq_getElem?_getD, List.getElem?_set_ne e]; rfl
      rw [h1]
      by_cases h2 : t < n
      · rw [if_pos (by omega), if_pos (by omega)]
        rw [if_pos h2, if_pos h2] at ih
        omega
      · rw [if_neg (by omega), if_neg (by omega)]
        rw [if_neg h2, if_neg h2] at ih
        omega
theorem dotC_add {p : List Nat} {c : Nat → Nat} {t q n : Nat} (ht : t < p.length) (hn : t < n) : Cg (dotC (p.set t ((p.getD t 0 + q) % 18446744073709551616)) c n) (dotC p c n + q * c t) := by
  have h := dotC_set (c := c) (v := (p.getD t 0 + q) % 18446744073709551616) ht n
  rw [if_pos hn, if_pos hn] at h
  refine Cg.cancel (c := p.getD t 0 * c t) ?_
  rw [h]
  have h2 : dotC p c n + q * c t + p.getD t 0 * c t = dotC p c n + (p.getD t 0 + q) * c t := by rw [Nat.add_mul]; omega
  rw [h2]
  exact Cg.add Cg.rfl' (Cg.mul Cg.mod Cg.rfl')
theorem dotC_zeros (c : Nat → Nat) (m : Nat) : ∀ n, dotC (List.replicate m 0) c n = 0
  | 0 => rfl
  | n + 1 => by
    simp only [dotC, dotC_zeros c m n]
    have : (List.replicate m 0).getD n 0 = 0 := by
      rw [List.getD_eq_getElem?_getD, List.getElem?_replicate]; split <;> rfl
    rw [this]; simp
theorem dotC_one {c : Nat → Nat} {m t : Nat} (ht : t < m) : ∀ n, dotC ((List.replicate m 0).set t 1) c n = if t < n then c t else 0
  | n => by
    have h := dotC_set (p := List.replicate m 0) (c := c) (v := 1) (t := t) (by simpa using ht) n
    have e : (List.replicate m 0).getD t 0 = 0 := by rw [List.getD_eq_getElem?_getD, List.getElem?_replicate]; split <;> rfl
    rw [dotC_zeros, e] at h
    simpa using h
def finS (d : DFA) (p : List Nat) : Nat → Nat
  | 0 => 0
  | n + 1 => (finS d p n + if finN d n = true then p.getD n 0 else 0) % 18446744073709551616
theorem finS_dot (d : DFA) (p : List Nat) : ∀ n, Cg (finS d p n) (dotC p (cntN d 0) n)
  | 0 => rfl
  | n + 1 => by
    refine Cg.trans' Cg.mod ?_
    refine Cg.add (finS_dot d p n) ?_
    rw [cntN_zero]
    split <;> simp [Cg]
def satN (B : Nat) (d : DFA) (n s : Nat) : Nat := min (cntN d n s) B
def psat (B : Nat) (d : DFA) (n s x : Nat) : Nat := min (psum d n s x) B
theorem psat_succ (B : Nat) (d : DFA) (n s x : Nat) : psat B d n s (x + 1) = min (psat B d n s x + satN B d n (toN d s x)) B := by
  unfold psat satN; rw [psum_succ]; omega
theorem psat_full (B : Nat) (d : DFA) (n s : Nat) : psat B d n s (letN d) = satN B d (n + 1) s := by unfold psat satN; rw [psum_full]
theorem satN_zero {B : Nat} (hB : 1 ≤ B) (d : DFA) (s : Nat) : satN B d 0 s = if finN d s = true then 1 else 0 := by
  unfold satN; rw [cntN_zero]; split <;> omega
theorem satN_le (B : Nat) (d : DFA) (n s : Nat) : satN B d n s ≤ B := by unfold satN; omega
theorem sat_lt {B k : Nat} (hk : k < B) {d : DFA} {n s : Nat} : k < satN B d n s ↔ k < cntN d n s := by unfold satN; omega
theorem sat_eq {B k : Nat} (hk : k < B) {d : DFA} {n s : Nat} (h : ¬ k < satN B d n s) : satN B d n s = cntN d n s := by unfold satN at *; omega
end Go.Lx


namespace Go.Lx
open Go.RowKit
set_option linter.unusedVariables false
abbrev uns (l : List Nat) : List Value := l.map fun x : Nat => Value.int .u64 (x : Int)
theorem wrapM (x : Nat) : IntKind.u64.wrap (x : Int) = ((x % 18446744073709551616 : Nat) : Int) := by
  simp only [IntKind.wrap, IntKind.signed, IntKind.bits]
  simp
section
variable {P : Program} {base : World} {ρ : Env} {O : List Item} {dst : Option Nat} {t : TypeId} {p : String} {af : Array Edge} {g : Option (Nat × Bool)}
theorem q_addM {x y : Operand} {T U : TypeId} {a b : Nat} (hx : ev ρ x = .int .u64 (a : Int)) (hy : ev ρ y = .int .u64 (b : Int)) : QT P base ⟨dst, .binOp .add T x y U, t, p, af, g⟩ ρ O (.int .u64 (((a + b) % 18446744073709551616 : Nat) : Int)) := by
  have h := q_add (P := P) (base := base) (O := O) (dst := dst) (t := t) (p := p) (af := af) (g := g) (T := T) (U := U) hx hy
  rw [← Int.natCast_add, wrapM] at h
  exact h
end
theorem uns_at {l : List Nat} {i : Nat} (h : i < l.length) : (uns l)[i]? = some (.int .u64 ((l.getD i 0 : Nat) : Int)) := by
  rw [List.getElem?_map, List.getElem?_eq_getElem h, List.getD_eq_getElem?_getD, List.getElem?_eq_getElem h]; rfl
theorem dI_outer {base : World} {O : List Item} {II Bo I : TypeId} {d : DFA} {k : DK} (h : dI II Bo I d k ∈ O) : ∀ w, Inv base O w → Sl w k.nb (vals k.qs) := fun w hI => (hI.at h).outer
theorem dI_nums {base w : World} {O : List Item} {II Bo I : TypeId} {d : DFA} {k : DK} (hI : Inv base O w) (h : dI II Bo I d k ∈ O) : nums k.qs = d.next := (hI.holds _ h).1
theorem dI_row {base : World} {O : List Item} {II Bo I : TypeId} {d : DFA} {k : DK} {q : Rec} {s : Nat} {xs : List Int} (h : dI II Bo I d k ∈ O) (hq : k.qs[s]? = some q) (hx : q.xs = xs) : ∀ w, Inv base O w → Sl w q.b (ints xs) := fun w hI => by
  subst hx
  have g : ∀ it ∈ [rowI k.nb k.nc II 1 (vals k.qs), rowI k.fb k.fc Bo 1 (bools d.final)] ++ itms I k.qs, it.P w := (hI.holds _ h).2
  have : (Rec.itm I q).P w := g _ (List.mem_append_right _ (List.mem_map_of_mem (List.mem_of_getElem? hq)))
  exact rowP.sl this
theorem dk_row {d : DFA} {k : DK} (h : nums k.qs = d.next) {s : Nat} (hs : s < d.next.length) : ∃ q, k.qs[s]? = some q ∧ q.xs = d.next[s] := by
  have hl : k.qs.length = d.next.length := by rw [← h]; simp
  refine ⟨k.qs[s], List.getElem?_eq_getElem (by omega), ?_⟩
  have h2 : (nums k.qs)[s]? = d.next[s]? := by rw [h]
  rw [List.getElem?_map, List.getElem?_eq_getElem (by omega), List.getElem?_eq_getElem hs] at h2
  exact Option.some.inj h2
theorem rvals_at {qs : List Rec} {n : Nat} {q : Rec} (h : qs[n]? = some q) : (vals qs)[n]? = some (.slice q.b q.xs.length q.c) := by rw [List.getElem?_map, h]; rfl
structure URec where
  b : Option Addr
  c : Nat
  xs : List Nat
def URec.val (q : URec) : Value := .slice q.b q.xs.length q.c
def URec.itm (E : TypeId) (q : URec) : Item := rowI q.b q.c E 1 (uns q.xs)
abbrev uvals (qs : List URec) : List Value := qs.map URec.val
abbrev uitms (E : TypeId) (qs : List URec) : List Item := qs.map (URec.itm E)
theorem uvals_get {us : List URec} {n : Nat} {q : URec} (h : us[n]? = some q) : (uvals us)[n]? = some q.val := by rw [List.getElem?_map, h]; rfl
theorem uvals_at {us : List URec} {n : Nat} {q : URec} (h : us[n]? = some q) : (uvals us)[n]? = some (.slice q.b q.xs.length q.c) := uvals_get h
def tabR (d : DFA) (n : Nat) : List Nat := (List.range d.next.length).map (satN 18446744073709551615 d n)
theorem tabR_len (d : DFA) (n : Nat) : (tabR d n).length = d.next.length := by simp [tabR]
theorem tabR_get {d : DFA} {n s : Nat} (hs : s < d.next.length) : (uns (tabR d n))[s]? = some (.int .u64 ((satN 18446744073709551615 d n s : Nat) : Int)) := by
  rw [List.getElem?_map, tabR, List.getElem?_map, List.getElem?_range hs]; rfl
def TabOk (d : DFA) (us : List URec) : Prop := us.map URec.xs = (List.range 65).map (tabR d)
theorem TabOk.len {d : DFA} {us : List URec} (h : TabOk d us) : us.length = 65 := by
  have := congrArg List.length h; simpa using this
theorem TabOk.get {d : DFA} {us : List URec} (h : TabOk d us) {n : Nat} (hn : n < 65) : ∃ q, us[n]? = some q ∧ q.xs = tabR d n := by
  have hl := h.len
  have h2 : us[n]? = some us[n] := List.getElem?_eq_getElem (by omega)
  refine ⟨us[n], h2, ?_⟩
  have h3 := congrArg (·[n]?) h
  simp only [List.getElem?_map, h2, List.getElem?_range hn, Option.map_some] at h3
  exact Option.some.inj h3
def tabI (T2 T1 : TypeId) (d : DFA) (tb : Option Addr) (us : List URec) : Item := packI (TabOk d us) (rowI tb 65 T2 1 (uvals us) :: uitms T1 us)
theorem tabO {base : World} {O : List Item} {T2 T1 : TypeId} {d : DFA} {tb : Option Addr} {us : List URec} (h : tabI T2 T1 d tb us ∈ O) : ∀ w, Inv base O w → Sl w tb (uvals us) := fun w hI => by
  have h0 := (hI.holds _ h).2 (rowI tb 65 T2 1 (uvals us)) (by simp)
  exact rowP.sl h0
theorem tabQ {base : World} {O : List Item} {T2 T1 : TypeId} {d : DFA} {tb : Option Addr} {us : List URec} {n : Nat} {q : URec} (h : tabI T2 T1 d tb us ∈ O) (hq : us[n]? = some q) : ∀ w, Inv base O w → Sl w q.b (uns q.xs) := fun w hI => by
  have h0 := (hI.holds _ h).2 (q.itm T1) (List.mem_cons_of_mem _ (List.mem_map_of_mem (List.mem_of_getElem? hq)))
  exact rowP.sl h0
theorem tabQR {base : World} {O : List Item} {T2 T1 : TypeId} {d : DFA} {tb : Option Addr} {us : List URec} {n : Nat} {q : URec} (h : tabI T2 T1 d tb us ∈ O) (hq : us[n]? = some q) (hx : q.xs = tabR d n) : ∀ w, Inv base O w → Sl w q.b (uns (tabR d n)) := hx ▸ tabQ h hq
def tabP (d : DFA) (n s x : Nat) : List Nat := (List.range d.next.length).map fun t => if t < s then satN 18446744073709551615 d (n + 1) t else if t = s then psat 18446744073709551615 d n s x else 0
theorem tabP_len (d : DFA) (n s x : Nat) : (tabP d n s x).length = d.next.length := by simp [tabP]
theorem tabP_zero (d : DFA) (n : Nat) : uns (tabP d n 0 0) = List.replicate d.next.length (.int .u64 0) := by
  apply List.ext_getElem (by simp [tabP])
  intro i h1 h2
  simp [tabP, psat, psum_zero]
theorem tabP_at {d : DFA} {n s x : Nat} (hs : s < d.next.length) : (uns (tabP d n s x))[s]? = some (.int .u64 ((psat 18446744073709551615 d n s x : Nat) : Int)) := by
  rw [List.getElem?_map, tabP, List.getElem?_map, List.getElem?_range hs]; simp
theorem psat_le (B : Nat) (d : DFA) (n s x : Nat) : psat B d n s x ≤ B := by unfold psat; omega
theorem tabP_set {d : DFA} {n s x v : Nat} (hs : s < d.next.length) (hv : v = psat 18446744073709551615 d n s (x + 1)) : (tabP d n s x).set s v = tabP d n s (x + 1) := by
  apply List.ext_getElem (by simp [tabP])
  intro i h1 h2
  rw [List.getElem_set]
  simp only [tabP, List.getElem_map, List.getElem_range]
  by_cases e : s = i
  · subst e; simp [hv]
  · have e' : ¬ i = s := fun h => e h.symm
    simp [e, e']
theorem tabP_row (d : DFA) (n s : Nat) : tabP d n s (letN d) = tabP d n (s + 1) 0 := by
  apply List.ext_getElem (by simp [tabP])
  intro i h1 h2
  simp only [tabP, List.getElem_map, List.getElem_range]
  by_cases e1 : i < s
  · rw [if_pos e1, if_pos (by omega)]
  · by_cases e2 : i = s
    · subst e2; rw [if_neg e1, if_pos rfl, if_pos (by omega), psat_full]
    · rw [if_neg e1, if_neg e2, if_neg (by omega)]
      split
      · simp [psat, psum_zero]
      · rfl
theorem tabP_end (d : DFA) (n : Nat) : tabP d n d.next.length 0 = tabR d (n + 1) := by
  unfold tabP tabR
  exact List.map_congr_left fun t ht => by rw [if_pos (List.mem_range.1 ht)]
theorem psat_hit {d : DFA} {n s x : Nat} (h : (psat 18446744073709551615 d n s x + satN 18446744073709551615 d n (toN d s x)) % 18446744073709551616 < psat 18446744073709551615 d n s x) : psat 18446744073709551615 d n s (x + 1) = 18446744073709551615 := by
  have h1 := psat_le 18446744073709551615 d n s x
  have h2 := satN_le 18446744073709551615 d n (toN d s x)
  rw [psat_succ]; omega
theorem psat_miss {d : DFA} {n s x : Nat} (h : ¬ (psat 18446744073709551615 d n s x + satN 18446744073709551615 d n (toN d s x)) % 18446744073709551616 < psat 18446744073709551615 d n s x) : psat 18446744073709551615 d n s (x + 1) = (psat 18446744073709551615 d n s x + satN 18446744073709551615 d n (toN d s x)) % 18446744073709551616 := by
  have h1 := psat_le 18446744073709551615 d n s x
  have h2 := satN_le 18446744073709551615 d n (toN d s x)
  rw [psat_succ]; omega
def tab0 (d : DFA) (s : Nat) : List Nat := (List.range d.next.length).map fun t => if t < s ∧ finN d t = true then 1 else 0
theorem tab0_len (d : DFA) (s : Nat) : (tab0 d s).length = d.next.length := by simp [tab0]
theorem tab0_zero (d : DFA) : uns (tab0 d 0) = List.replicate d.next.length (.int .u64 0) := by
  apply List.ext_getElem (by simp [tab0])
  intro i h1 h2
  simp [tab0]
theorem tab0_yes {d : DFA} {s : Nat} (hs : s < d.next.length) (hf : finN d s = true) : (tab0 d s).set s 1 = tab0 d (s + 1) := by
  apply List.ext_getElem (by simp [tab0])
  intro i h1 h2
  rw [List.getElem_set]
  simp only [tab0, List.getElem_map, List.getElem_range]
  by_cases e : s = i
  · subst e; simp [hf]
  · have e' : i < s + 1 ↔ i < s := by omega
    simp [e, e']
theorem tab0_no {d : DFA} {s : Nat} (hf : finN d s = false) : tab0 d s = tab0 d (s + 1) := by
  unfold tab0
  refine List.map_congr_left fun t _ => ?_
  by_cases e : t = s
  · subst e; simp [hf]
  · have e' : t < s + 1 ↔ t < s := by omega
    simp [e']
theorem tab0_end (d : DFA) : tab0 d d.next.length = tabR d 0 := by
  unfold tab0 tabR
  refine List.map_congr_left fun t ht => ?_
  rw [satN_zero (by omega)]
  have := List.mem_range.1 ht
  simp [this]
def tabX (d : DFA) (n s x : Nat) : List Nat := match n with | 0 => tab0 d s | m + 1 => tabP d m s x
theorem tabX_len (d : DFA) (n s x : Nat) : (tabX d n s x).length = d.next.length := by
  cases n
  · exact tab0_len d s
  · exact tabP_len d _ s x
theorem tabX_zero (d : DFA) (n : Nat) : uns (tabX d n 0 0) = List.replicate d.next.length (.int .u64 0) := by
  cases n
  · exact tab0_zero d
  · exact tabP_zero d _
theorem tabX_at {d : DFA} {n m s x : Nat} (hm : n = m + 1) (hs : s < d.next.length) : (uns (tabX d n s x))[s]? = some (.int .u64 ((psat 18446744073709551615 d m s x : Nat) : Int)) := by
  subst hm; exact tabP_at hs
theorem tabX_set {d : DFA} {n m s x v : Nat} (hm : n = m + 1) (hs : s < d.next.length) (hv : v = psat 18446744073709551615 d m s (x + 1)) : (tabX d n s x).set s v = tabX d n s (x + 1) := by
  subst hm; exact tabP_set hs hv
theorem tabX_row {d : DFA} {n m s x : Nat} (hm : n = m + 1) (hx : x = letN d) : tabX d n s x = tabX d n (s + 1) 0 := by
  subst hm hx; exact tabP_row d m s
theorem tabX_yes {d : DFA} {n s : Nat} (hn : n = 0) (hs : s < d.next.length) (hf : finN d s = true) : (tabX d n s 0).set s 1 = tabX d n (s + 1) 0 := by
  subst hn; exact tab0_yes hs hf
theorem tabX_no {d : DFA} {n s : Nat} (hn : n = 0) (hf : finN d s = false) : tabX d n s 0 = tabX d n (s + 1) 0 := by
  subst hn; exact tab0_no hf
theorem tabX_end {d : DFA} {n s : Nat} (hs : s = d.next.length) : tabX d n s 0 = tabR d n := by
  subst hs
  cases n
  · exact tab0_end d
  · exact tabP_end d _
theorem tput {us : List URec} {n k : Nat} {v : Value} (h : us.length = n) (hn : n < k) : putL (uvals us ++ List.replicate (k - n) (.slice none 0 0)) n [v] = uvals us ++ (v :: List.replicate (k - 1 - n) (.slice none 0 0)) := by
  have e : k - n = (k - 1 - n) + 1 := by omega
  rw [e, List.replicate_succ]
  have hl : (uvals us).length = n := by simpa using h
  show List.set _ n v = _
  rw [List.set_append_right _ _ (by omega), hl, Nat.sub_self]; rfl
theorem tget_at {us : List URec} {n : Nat} {v : Value} {r : List Value} (h : us.length = n) : (uvals us ++ (v :: r))[n]? = some v := by
  rw [List.getElem?_append_right (by simp; omega)]; simp [h]
theorem tget_lt {us : List URec} {m : Nat} {q : URec} {r : List Value} (h : us[m]? = some q) : (uvals us ++ r)[m]? = some (.slice q.b q.xs.length q.c) := by
  have hl := (List.getElem?_eq_some_iff.1 h).1
  rw [List.getElem?_append_left (by simpa using hl)]; exact uvals_get h
theorem uitms_snoc (E : TypeId) (qs : List URec) (r : URec) : uitms E (qs ++ [r]) = uitms E qs ++ [r.itm E] := List.map_append
theorem uitmO {base : World} {O : List Item} {E : TypeId} {q : URec} (h : URec.itm E q ∈ O) : ∀ w, Inv base O w → Sl w q.b (uns q.xs) := fun w hI => rowP.sl (hI.holds _ h)
structure WRec where
  b : Option Addr
  c : Nat
  xs : List Nat
def WRec.val (q : WRec) : Value := .slice q.b q.xs.length q.c
def WRec.itm (E : TypeId) (q : WRec) : Item := rowI q.b q.c E 1 (byts q.xs)
abbrev wvals (qs : List WRec) : List Value := qs.map WRec.val
abbrev witms (E : TypeId) (qs : List WRec) : List Item := qs.map (WRec.itm E)
abbrev wnums (qs : List WRec) : List (List Nat) := qs.map WRec.xs
def wlI (T2 T1 : TypeId) (lb : Option Addr) (lc : Nat) (ws : List WRec) : Item := packI True (rowI lb lc T2 1 (wvals ws) :: witms T1 ws)
theorem wlO {base w : World} {O : List Item} {T2 T1 : TypeId} {lb : Option Addr} {lc : Nat} {ws : List WRec} (hI : Inv base O w) (h : wlI T2 T1 lb lc ws ∈ O) : Sl w lb (wvals ws) ∧ ∀ q ∈ ws, Sl w q.b (byts q.xs) := by
  have h0 := (hI.holds _ h).2
  exact ⟨rowP.sl (h0 (rowI lb lc T2 1 (wvals ws)) (by simp)), fun q hq => rowP.sl (h0 (q.itm T1) (List.mem_cons_of_mem _ (List.mem_map_of_mem hq)))⟩
end Go.Lx


namespace Go.Lx
set_option linter.unusedVariables false
structure PathI (d : DFA) (n i : Nat) (p : List Nat) : Prop where
  len : p.length = d.next.length
  lt : ∀ v ∈ p, v < 18446744073709551616
  eq : Cg (dotC p (cntN d (n - i)) d.next.length) (cntN d n d.start.toNat)
structure NextI (d : DFA) (m : Nat) (p q : List Nat) (s x : Nat) : Prop where
  len : q.length = d.next.length
  lt : ∀ v ∈ q, v < 18446744073709551616
  eq : Cg (dotC q (cntN d m) d.next.length) (dotC p (cntN d (m + 1)) s + p.getD s 0 * psum d m s x)
theorem PathI.zero {d : DFA} (hs : d.start.toNat < d.next.length) (n : Nat) : PathI d n 0 ((List.replicate d.next.length 0).set d.start.toNat 1) where
  len := by simp
  lt v hv := by
    rcases List.mem_or_eq_of_mem_set hv with h | h
    · rw [(List.mem_replicate.1 h).2]; decide
    · omega
  eq := by rw [dotC_one hs, if_pos hs]; exact Cg.rfl'
theorem NextI.zero {d : DFA} (m : Nat) (p : List Nat) : NextI d m p (List.replicate d.next.length 0) 0 0 where
  len := by simp
  lt v hv := by rw [(List.mem_replicate.1 hv).2]; decide
  eq := by rw [dotC_zeros, psum_zero]; exact Cg.rfl'
theorem NextI.step {d : DFA} {m : Nat} {p q : List Nat} {s x : Nat} (h : NextI d m p q s x) (ht : toN d s x < d.next.length) : NextI d m p (q.set (toN d s x) ((q.getD (toN d s x) 0 + p.getD s 0) % 18446744073709551616)) s (x + 1) where
  len := by rw [List.length_set]; exact h.len
  lt v hv := by
    rcases List.mem_or_eq_of_mem_set hv with h1 | h1
    · exact h.lt v h1
    · omega
  eq := by
    refine Cg.trans' (dotC_add (by rw [h.len]; exact ht) ht) ?_
    rw [psum_succ, Nat.mul_add, ← Nat.add_assoc]
    exact Cg.add h.eq Cg.rfl'
theorem NextI.row {d : DFA} {m : Nat} {p q : List Nat} {s : Nat} (h : NextI d m p q s (letN d)) : NextI d m p q (s + 1) 0 where
  len := h.len
  lt := h.lt
  eq := by have := h.eq; rw [psum_full] at this; rw [psum_zero, Nat.mul_zero, Nat.add_zero]; exact this
theorem NextI.done {d : DFA} {n i : Nat} {p q : List Nat} (hi : i < n) (hp : PathI d n i p) (h : NextI d (n - (i + 1)) p q d.next.length 0) : PathI d n (i + 1) q where
  len := h.len
  lt := h.lt
  eq := by
    refine Cg.trans' h.eq ?_
    rw [psum_zero, Nat.mul_zero, Nat.add_zero, show n - (i + 1) + 1 = n - i by omega]
    exact hp.eq
theorem finS_lt (d : DFA) (p : List Nat) : ∀ n, finS d p n < 18446744073709551616
  | 0 => by simp [finS]
  | n + 1 => Nat.mod_lt _ (by decide)
theorem finS_yes {d : DFA} {p : List Nat} {s : Nat} (hf : finN d s = true) : (finS d p s + p.getD s 0) % 18446744073709551616 = finS d p (s + 1) := by
  simp [finS, hf]
theorem finS_no {d : DFA} {p : List Nat} {s : Nat} (hf : finN d s = false) : finS d p s = finS d p (s + 1) := by
  have := finS_lt d p s
  simp [finS, hf]; omega
theorem PathI.end {d : DFA} {n : Nat} {p : List Nat} (h : PathI d n n p) : finS d p d.next.length = cntN d n d.start.toNat % 18446744073709551616 := by
  refine Cg.lt (Cg.trans' (finS_dot d p _) ?_) (finS_lt d p _)
  have := h.eq
  rwa [Nat.sub_self] at this
def cntE (d : DFA) (n : Int) : Nat := if checkD d ≠ 0 then checkD d else if n < 0 ∨ 64 < n then 1 else 0
def cntV (d : DFA) (n : Int) : Nat := if cntE d n = 0 then cntN d n.toNat d.start.toNat % 18446744073709551616 else 0
def nthE (d : DFA) (k : Nat) : Nat := if checkD d ≠ 0 then checkD d else if 4611686018427387904 ≤ k then 1 else 0
def nthV (d : DFA) (k : Nat) : Option (List Nat) := if nthE d k = 0 then (allW d 65)[k]? else none
def wdsE (d : DFA) (m : Int) : Nat := if checkD d ≠ 0 then checkD d else if m < 0 ∨ 256 < m then 1 else 0
def wdsV (d : DFA) (m : Int) : List (List Nat) := if wdsE d m = 0 then (allW d 65).take m.toNat else []
theorem nthE_small {d : DFA} {k : Nat} (h : checkD d = 0) (hk : k < 4611686018427387904) : nthE d k = 0 := by
  unfold nthE; rw [if_neg (by omega), if_neg (by omega)]
theorem nthV_small {d : DFA} {k : Nat} (h : checkD d = 0) (hk : k < 4611686018427387904) : nthV d k = (allW d 65)[k]? := if_pos (nthE_small h hk)
theorem nth_len {d : DFA} {n k B : Nat} (hB : 4611686018427387904 ≤ B) (hn : n < 65) (hk : k < 4611686018427387904) (h : satN B d n d.start.toNat ≤ k) : (fromW d n 65)[k]? = (fromW d (n + 1) 65)[k - satN B d n d.start.toNat]? := by
  have h1 : satN B d n d.start.toNat = cntN d n d.start.toNat := sat_eq (k := k) (by omega) (by omega)
  rw [fromW_get hn, if_neg (by omega), h1]
theorem nth_hit {d : DFA} {n k B : Nat} (hB : 4611686018427387904 ≤ B) (hn : n < 65) (hk : k < 4611686018427387904) (h : ¬ satN B d n d.start.toNat ≤ k) : (fromW d n 65)[k]? = (wsN d n d.start.toNat)[k]? := by
  have h1 := (sat_lt (B := B) (k := k) (by omega) (d := d) (n := n) (s := d.start.toNat)).1 (by omega)
  rw [fromW_get hn, if_pos h1]
structure NthI (d : DFA) (r : Option (List Nat)) (n s k : Nat) (w : List Nat) : Prop where
  wd : Wd d w
  lt : k < cntN d n s
  eq : r = ((wsN d n s)[k]?).map (w ++ ·)
theorem NthI.start {d : DFA} {r : Option (List Nat)} {n k B : Nat} (hB : 4611686018427387904 ≤ B) (hn : n < 65) (hk : k < 4611686018427387904) (h : ¬ satN B d n d.start.toNat ≤ k) (hr : r = (fromW d n 65)[k]?) : NthI d r n d.start.toNat k [] where
  wd x hx := by cases hx
  lt := (sat_lt (B := B) (k := k) (by omega) (d := d) (n := n) (s := d.start.toNat)).1 (by omega)
  eq := by rw [hr, nth_hit hB hn hk h]; simp
structure LetI (d : DFA) (r : Option (List Nat)) (n s k x : Nat) (w : List Nat) : Prop where
  wd : Wd d w
  lt : k < (lettW d n s x).length
  eq : r = ((lettW d n s x)[k]?).map (w ++ ·)
theorem NthI.let {d : DFA} {r : Option (List Nat)} {n s k : Nat} {w : List Nat} (h : NthI d r (n + 1) s k w) : LetI d r n s k 0 w :=
  ⟨h.wd, by rw [lettW_zero]; exact h.lt, by rw [lettW_zero]; exact h.eq⟩
theorem LetI.in {d : DFA} {r : Option (List Nat)} {n s k x : Nat} {w : List Nat} (h : LetI d r n s k x w) : x < letN d := by
  by_cases e : x < letN d
  · exact e
  · have := h.lt; rw [lettW_end (by omega)] at this; simp at this
theorem LetI.next {d : DFA} {r : Option (List Nat)} {n s k x B : Nat} {w : List Nat} (hB : 4611686018427387904 ≤ B) (hk : k < 4611686018427387904) (h : LetI d r n s k x w) (hc : satN B d n (toN d s x) ≤ k) : LetI d r n s (k - satN B d n (toN d s x)) (x + 1) w := by
  have hx := h.in
  have h1 : satN B d n (toN d s x) = cntN d n (toN d s x) := sat_eq (k := k) (by omega) (by omega)
  refine ⟨h.wd, ?_, ?_⟩
  · have := h.lt
    rw [lettW_cons hx, List.length_append, List.length_map] at this
    rw [h1]; unfold cntN at *; omega
  · rw [h.eq, lettW_get hx, if_neg (by omega), h1]
theorem LetI.hit {d : DFA} {r : Option (List Nat)} {n s k x B : Nat} {w : List Nat} (hB : 4611686018427387904 ≤ B) (hk : k < 4611686018427387904) (h : LetI d r n s k x w) (hc : ¬ satN B d n (toN d s x) ≤ k) : NthI d r n (toN d s x) k (w ++ [x]) := by
  have hx := h.in
  have h1 := (sat_lt (B := B) (k := k) (by omega) (d := d) (n := n) (s := toN d s x)).1 (by omega)
  refine ⟨fun y hy => ?_, h1, ?_⟩
  · rcases List.mem_append.1 hy with hy | hy
    · exact h.wd y hy
    · rw [List.mem_singleton.1 hy]; exact hx
  · rw [h.eq, lettW_get hx, if_pos h1, Option.map_map]
    congr 1
    funext u; simp
theorem NthI.end {d : DFA} {r : Option (List Nat)} {s k : Nat} {w : List Nat} (h : NthI d r 0 s k w) : r = some w := by
  have h1 := h.lt
  have h2 := h.eq
  rw [cntN_zero] at h1
  split at h1
  · rename_i hf
    obtain rfl : k = 0 := by omega
    rw [h2]; simp [wsN, hf]
  · omega
theorem NthI.len {d : DFA} {r : Option (List Nat)} {n s k : Nat} {w : List Nat} (h : NthI d r n s k w) : ∃ u, r = some u ∧ u.length = w.length + n := by
  have h1 := h.lt
  unfold cntN at h1
  refine ⟨w ++ (wsN d n s)[k], ?_, ?_⟩
  · rw [h.eq, List.getElem?_eq_getElem h1]; rfl
  · rw [List.length_append, (mem_wsN.1 (List.getElem_mem h1)).1]
theorem wsN_at {d : DFA} {n s x i : Nat} {u : List Nat} (hx : x < letN d) (h : (wsN d n (toN d s x))[i]? = some u) : (wsN d (n + 1) s)[psum d n s x + i]? = some (x :: u) := by
  have key : ∀ y, y ≤ x → (wsN d (n + 1) s)[psum d n s x + i]? = (lettW d n s y)[(psum d n s x - psum d n s y) + i]? := by
    intro y
    induction y with
    | zero => intro _; rw [lettW_zero, psum_zero, Nat.sub_zero]
    | succ y ih =>
      intro hy
      have hm := psum_mono d n s hy
      rw [psum_succ] at hm
      rw [ih (by omega), lettW_get (by omega), if_neg (by omega), psum_succ]
      congr 1; omega
  have hl : i < cntN d n (toN d s x) := (List.getElem?_eq_some_iff.1 h).1
  rw [key x (Nat.le_refl _), Nat.sub_self, Nat.zero_add, lettW_get hx, if_pos hl, h]; rfl
theorem satN_none {B : Nat} {d : DFA} {n s : Nat} (hB : 0 < B) (h : satN B d n s = 0) : cntN d n s = 0 := by unfold satN at h; omega
end Go.Lx


namespace Go.Proofs.YtnmfefmhfkhihaaDoor
open Go.Lx Go.RowKit
theorem mixed : Tryd.prog.follows .mixedOrders = true := by kernel_rfl
theorem inf3 : Inf Tryd.prog 3 (.int .i64 0) 1 8 := by unfold Inf; kernel_rfl
theorem inf4 : Inf Tryd.prog 4 (.bool false) 1 1 := by unfold Inf; kernel_rfl
theorem inf5 : Inf Tryd.prog 5 (.int .u8 0) 1 1 := by unfold Inf; kernel_rfl
theorem inf22 : Inf Tryd.prog 22 ((.slice none 0 0)) 1 24 := by unfold Inf; kernel_rfl
theorem inf23 : Inf Tryd.prog 23 ((.slice none 0 0)) 1 24 := by unfold Inf; kernel_rfl
theorem inf25 : Inf Tryd.prog 25 ((.agg #[(.int .i64 0), (.int .i64 0), (.slice none 0 0), (.slice none 0 0)])) 4 64 := by unfold Inf; kernel_rfl
theorem inf26 : Inf Tryd.prog 26 (.int .u64 0) 1 8 := by unfold Inf; kernel_rfl
theorem inf29 : Inf Tryd.prog 29 ((.slice none 0 0)) 1 24 := by unfold Inf; kernel_rfl
theorem inf33 : Inf Tryd.prog 33 ((.slice none 0 0)) 1 24 := by unfold Inf; kernel_rfl
theorem inf41 : Inf Tryd.prog 41 ((.slice none 0 0)) 1 24 := by unfold Inf; kernel_rfl
theorem inf62 : Inf Tryd.prog 62 ((.slice none 0 0)) 1 24 := by unfold Inf; kernel_rfl
theorem inf70 : Inf Tryd.prog 70 ((.agg #[(.int .i64 0), (.slice none 0 0)])) 2 32 := by unfold Inf; kernel_rfl
theorem inf74 : Inf Tryd.prog 74 (.nilFunc) 1 8 := by unfold Inf; kernel_rfl
theorem inf108 : Inf Tryd.prog 108 (.map none) 1 8 := by unfold Inf; kernel_rfl
theorem plan25 : Plan Tryd.prog 25 [(0, 1), (1, 1), (2, 1), (3, 1)] := ⟨_, Tryd.underlying25, fun w => by simp [run_sizeOf' inf3, run_sizeOf' inf22, run_sizeOf' inf23]⟩
theorem plan70 : Plan Tryd.prog 70 [(0, 1), (1, 1)] := ⟨_, Tryd.underlying70, fun w => by simp [run_sizeOf' inf3, run_sizeOf' inf29]⟩
theorem ent11 : Lx.Enters Tryd.prog 11 Tryd.f11 := ⟨Tryd.func11, by kernel_rfl, rfl⟩
theorem ent14 : Lx.Enters Tryd.prog 14 Tryd.f14 := ⟨Tryd.func14, by kernel_rfl, rfl⟩
theorem ent15 : Lx.Enters Tryd.prog 15 Tryd.f15 := ⟨Tryd.func15, by kernel_rfl, rfl⟩
theorem ent16 : Lx.Enters Tryd.prog 16 Tryd.f16 := ⟨Tryd.func16, by kernel_rfl, rfl⟩
theorem ent17 : Lx.Enters Tryd.prog 17 Tryd.f17 := ⟨Tryd.func17, by kernel_rfl, rfl⟩
theorem ent20 : Lx.Enters Tryd.prog 20 Tryd.f20 := ⟨Tryd.func20, by kernel_rfl, rfl⟩
theorem ent21 : Lx.Enters Tryd.prog 21 Tryd.f21 := ⟨Tryd.func21, by kernel_rfl, rfl⟩
theorem ent22 : Lx.Enters Tryd.prog 22 Tryd.f22 := ⟨Tryd.func22, by kernel_rfl, rfl⟩
theorem ent23 : Lx.Enters Tryd.prog 23 Tryd.f23 := ⟨Tryd.func23, by kernel_rfl, rfl⟩
theorem ent24 : Lx.Enters Tryd.prog 24 Tryd.f24 := ⟨Tryd.func24, by kernel_rfl, rfl⟩
theorem ent33 : Lx.Enters Tryd.prog 33 Tryd.f33 := ⟨Tryd.func33, by kernel_rfl, rfl⟩
theorem ent37 : Lx.Enters Tryd.prog 37 Tryd.f37 := ⟨Tryd.func37, by kernel_rfl, rfl⟩
theorem ent40 : Lx.Enters Tryd.prog 40 Tryd.f40 := ⟨Tryd.func40, by kernel_rfl, rfl⟩
theorem ent42 : Lx.Enters Tryd.prog 42 Tryd.f42 := ⟨Tryd.func42, by kernel_rfl, rfl⟩
theorem ent43 : Lx.Enters Tryd.prog 43 Tryd.f43 := ⟨Tryd.func43, by kernel_rfl, rfl⟩
theorem ent44 : Lx.Enters Tryd.prog 44 Tryd.f44 := ⟨Tryd.func44, by kernel_rfl, rfl⟩
theorem ent45 : Lx.Enters Tryd.prog 45 Tryd.f45 := ⟨Tryd.func45, by kernel_rfl, rfl⟩
theorem ent46 : Lx.Enters Tryd.prog 46 Tryd.f46 := ⟨Tryd.func46, by kernel_rfl, rfl⟩
theorem ent47 : Lx.Enters Tryd.prog 47 Tryd.f47 := ⟨Tryd.func47, by kernel_rfl, rfl⟩
theorem ent48 : Lx.Enters Tryd.prog 48 Tryd.f48 := ⟨Tryd.func48, by kernel_rfl, rfl⟩
theorem ent53 : Lx.Enters Tryd.prog 53 Tryd.f53 := ⟨Tryd.func53, by kernel_rfl, rfl⟩
theorem ent56 : Lx.Enters Tryd.prog 56 Tryd.f56 := ⟨Tryd.func56, by kernel_rfl, rfl⟩
theorem ent57 : Lx.Enters Tryd.prog 57 Tryd.f57 := ⟨Tryd.func57, by kernel_rfl, rfl⟩
theorem ent62 : Lx.Enters Tryd.prog 62 Tryd.f62 := ⟨Tryd.func62, by kernel_rfl, rfl⟩
theorem ent63 : Lx.Enters Tryd.prog 63 Tryd.f63 := ⟨Tryd.func63, by kernel_rfl, rfl⟩
theorem ent64 : Lx.Enters Tryd.prog 64 Tryd.f64 := ⟨Tryd.func64, by kernel_rfl, rfl⟩
theorem ent65 : Lx.Enters Tryd.prog 65 Tryd.f65 := ⟨Tryd.func65, by kernel_rfl, rfl⟩
theorem ent66 : Lx.Enters Tryd.prog 66 Tryd.f66 := ⟨Tryd.func66, by kernel_rfl, rfl⟩
theorem ent67 : Lx.Enters Tryd.prog 67 Tryd.f67 := ⟨Tryd.func67, by kernel_rfl, rfl⟩
theorem ent68 : Lx.Enters Tryd.prog 68 Tryd.f68 := ⟨Tryd.func68, by kernel_rfl, rfl⟩
theorem ent77 : Lx.Enters Tryd.prog 77 Tryd.f77 := ⟨Tryd.func77, by kernel_rfl, rfl⟩
theorem ent78 : Lx.Enters Tryd.prog 78 Tryd.f78 := ⟨Tryd.func78, by kernel_rfl, rfl⟩
end Go.Proofs.YtnmfefmhfkhihaaDoor


namespace Go.Proofs.YtnmfefmhfkhihaaDoor
open Go.Lx Go.RowKit
set_option linter.unusedVariables false
set_option linter.unusedSimpArgs false
set_option maxHeartbeats 1000000 in
set_option maxRecDepth 20000 in
theorem equalBytes (w : World) (b1 b2 : Option Addr) (c1 c2 : Nat) (xs ys : List Nat) (h1 : Sl w b1 (byts xs)) (h2 : Sl w b2 (byts ys)) (hb : xs.length < 9223372036854775807) :
    PureT Tryd.prog 16 [(.slice b1 xs.length c1), (.slice b2 ys.length c2)] w fun v N => v = .bool (decide (xs = ys)) ∧ N = [] := by
  refine CallT.enter Tryd.func16 rfl Tryd.ntmps16 rfl ?_
  refine T.seq (T.region ?_)
  refine TO.quiet (q_assign rfl) ?_
  refine TO.nil (T.seq (T.seq (T.region ?_)))
  refine TO.quiet (q_move rfl) (TO.quiet (q_len Tryd.underlying29 rfl) (TO.quiet (q_move rfl) (TO.quiet (q_len Tryd.underlying29 rfl) ?_)))
  refine TO.quiet (q_neq rfl rfl) ?_
  refine TO.nil ?_
  refine T.condP rfl (fun hc => ?_) (fun hc => ?_)
  · have hlt10 : xs.length ≠ ys.length := by omega
    have hlen : xs.length ≠ ys.length := by omega
    refine T.seq (T.region ?_)
    refine TO.quiet (q_assign rfl) ?_
    refine TO.nil (T.ret ?_)
    refine Res.one (.bool false) Tryd.results16 rfl ?_
    exact ⟨congrArg Value.bool (decide_eq_false (fun e => hlen (by rw [e]))).symm, rfl⟩
  have hge10 : ¬ xs.length ≠ ys.length := by omega
  have hlen : xs.length = ys.length := by omega
  refine T.skip (T.seq (T.seq (T.region ?_)))
  refine TO.quiet (q_assign rfl) ?_
  refine TO.nil (T.block ?_)
  refine T.loop (fun (k : Nat) ρ O => O = [] ∧ k ≤ xs.length ∧ xs.take k = ys.take k ∧ Heads [(0, (.slice b1 xs.length c1)), (1, (.slice b2 ys.length c2)), (5, .int .i64 (k : Int))] ρ) (fun k => xs.length - k) 0 ?_ ?_
  · exact ⟨rfl, Nat.zero_le _, rfl, ⟨rfl, rfl, rfl, trivial⟩⟩
  rintro k ρ O ⟨rfl, hk, he, hH⟩
  obtain ⟨ρ0, rfl⟩ := hH.elim
  clear hH
  refine T.seq (T.seq (T.region ?_))
  refine TO.quiet (q_move rfl) (TO.quiet (q_move rfl) (TO.quiet (q_len Tryd.underlying29 rfl) (TO.quiet (q_lss rfl rfl) ?_)))
  refine TO.nil ?_
  refine T.condP rfl (fun hc => ?_) (fun hc => ?_)
  · have hlt14 : k < xs.length := by omega
    have hlt : k < xs.length := by omega
    have hlt2 : k < ys.length := by omega
    obtain ⟨kb1, ko1, rfl⟩ := h1.addr (i := k) (by simpa using hlt)
    obtain ⟨kb2, ko2, rfl⟩ := h2.addr (i := k) (by simpa using hlt2)
    refine T.skip (T.seq (T.block (T.seq ?_)))
    refine T.draws _ [(0, 0), (1, 0), (2, 0), (3, 0), (4, 0), (5, 0), (6, 0), (7, 0), (8, 0)] mixed (by kernel_rfl) (Sub.of (List.Sublist.refl _)) (fun _ _ _ h => h) ?_
    refine DO.quiet rfl (q_move rfl) (DO.quiet rfl (q_move rfl) (DO.quiet rfl (q_idx Tryd.underlying29 inf5 rfl rfl hlt) (DO.quiet rfl (q_load_sl Tryd.underlying5 rfl rfl h1 (byts_get hlt)) ?_)))
    refine DO.quiet rfl (q_move rfl) (DO.quiet rfl (q_move rfl) (DO.quiet rfl (q_idx Tryd.underlying29 inf5 rfl rfl hlt2) (DO.quiet rfl (q_load_sl Tryd.underlying5 rfl rfl h2 (byts_get hlt2)) ?_)))
    refine DO.quiet rfl (q_neq rfl rfl) ?_
    refine DO.done ?_
    refine T.condP (p := ¬ xs[k] = ys[k]) (congrArg Value.bool (decide_eq_decide.2 (by omega))) (fun hc => ?_) (fun hc => ?_)
    · have hlt25 : xs[k] ≠ ys[k] := by omega
      refine T.seq (T.region ?_)
      refine TO.quiet (q_assign rfl) ?_
      refine TO.nil (T.ret ?_)
      refine Res.one (.bool false) Tryd.results16 rfl ?_
      exact ⟨congrArg Value.bool (decide_eq_false (fun e => hc (by subst e; rfl))).symm, rfl⟩
    have hge25 : ¬ xs[k] ≠ ys[k] := by omega
    refine T.skip (T.region ?_)
    refine TO.quiet (q_move rfl) (TO.quiet (q_inc rfl rfl (by omega)) (TO.quiet (q_assign rfl) ?_))
    refine TO.nil ?_
    refine ⟨k + 1, by omega, rfl, by omega, ?_, ⟨rfl, rfl, rfl, trivial⟩⟩
    rw [List.take_succ_eq_append_getElem hlt, List.take_succ_eq_append_getElem hlt2, he]
    exact congrArg _ (congrArg (fun z => [z]) (Classical.not_not.1 hc))
  have hge14 : ¬ k < xs.length := by omega
  refine T.exit ?_
  refine T.seq (T.region ?_)
  refine TO.quiet (q_assign rfl) ?_
  refine TO.nil (T.ret ?_)
  refine Res.one (.bool true) Tryd.results16 rfl ?_
  exact ⟨congrArg Value.bool (decide_eq_true (show xs = ys by rw [List.take_of_length_le (by omega), List.take_of_length_le (by omega)] at he; exact he)).symm, rfl⟩
end Go.Proofs.YtnmfefmhfkhihaaDoor


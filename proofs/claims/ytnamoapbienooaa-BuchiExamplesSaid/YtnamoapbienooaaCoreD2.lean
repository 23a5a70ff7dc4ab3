/- Contracts of functions of the program (CoreD2): what each call answers and that it leaves memory as it was. Conditions: those each theorem names. -/
import Derived.Test.YtnamoapbienooaaCoreW
set_option linter.unusedSectionVars false
set_option linter.unusedSimpArgs false
set_option linter.unusedVariables false
set_option linter.unnecessarySimpa false
namespace Go.Lx
open Go.RowKit
set_option linter.unusedVariables false
structure MkD (Wt : Type) where
  i : Nat
  d : Nat
  dep : List Nat
  val : (Nat → Wt) → Value
  its : (Nat → Wt) → List Item
def setW {Wt : Type} (w : Nat → Wt) (i : Nat) (x : Wt) : Nat → Wt := fun j => bif Nat.beq j i then x else w j
section
variable {P : Program} {r : Option Nat} {base : World} {n : Nat} {ρ : Env} {O S : List Item} {tail : List Nat} {ops : Array Oper} {K : Env → List Item → Prop} {Wt : Type}
theorem setW_ne (w : Nat → Wt) {i j : Nat} (x : Wt) (h : j ≠ i) : setW w i x j = w j := by
  unfold setW
  cases e : Nat.beq j i with
  | false => rfl
  | true => exact absurd (Nat.eq_of_beq_eq_true e) h
def MkD.m (q : MkD Wt) : Mk Unit := ⟨q.i, q.d, fun _ => .bool true, fun _ => []⟩
def itsD (listed : Array Bool) (w : Nat → Wt) (mk : List (MkD Wt)) : List Item := mk.flatMap fun q => if listed.getD q.i false = true then q.its w else []
theorem itsD_set {listed : Array Bool} {x : MkD Wt} {w w2 : Nat → Wt} (hl : x.i < listed.size) (hx : listed.getD x.i false = false) : ∀ {mk : List (MkD Wt)}, (mk.map (·.i)).Nodup → x ∈ mk → (∀ q ∈ mk, listed.getD q.i false = true → q.its w2 = q.its w) →
    (itsD (listed.setIfInBounds x.i true) w2 mk).Perm (x.its w2 ++ itsD listed w mk)
  | [], _, h, _ => by cases h
  | q :: mk, hn, h, hs => by
    have hn1 := (List.nodup_cons.1 (by simpa using hn : (q.i :: mk.map (·.i)).Nodup))
    have hset : (listed.setIfInBounds x.i true).getD x.i false = true := by simp [hl]
    rcases List.mem_cons.1 h with rfl | h
    · have e : itsD (listed.setIfInBounds x.i true) w2 mk = itsD listed w mk := by
        unfold itsD
        rw [List.flatMap_def, List.flatMap_def]
        congr 1
        refine List.map_congr_left fun y hy => ?_
        have hne : x.i ≠ y.i := fun e => hn1.1 (List.mem_map.2 ⟨y, hy, e.symm⟩)
        rw [getD_set_ne false hne]
        by_cases hc : listed.getD y.i false = true
        · rw [if_pos hc, if_pos hc]; exact hs y (by simp [hy]) hc
        · rw [if_neg hc, if_neg hc]
      have e1 : itsD (listed.setIfInBounds x.i true) w2 (x :: mk) = x.its w2 ++ itsD (listed.setIfInBounds x.i true) w2 mk := by
        show (if (listed.setIfInBounds x.i true).getD x.i false = true then x.its w2 else []) ++ _ = _
        rw [if_pos hset]; rfl
      have e2 : itsD listed w (x :: mk) = itsD listed w mk := by
        show (if listed.getD x.i false = true then x.its w else []) ++ _ = _
        rw [if_neg (by rw [hx]; simp)]; rfl
      rw [e1, e, e2]
    · have ih := itsD_set (w := w) (w2 := w2) hl hx hn1.2 h (fun y hy => hs y (by simp [hy]))
      have hne : x.i ≠ q.i := fun e => hn1.1 (List.mem_map.2 ⟨x, h, e⟩)
      have e1 : itsD (listed.setIfInBounds x.i true) w2 (q :: mk) = (if listed.getD q.i false = true then q.its w else []) ++ itsD (listed.setIfInBounds x.i true) w2 mk := by
        show (if (listed.setIfInBounds x.i true).getD q.i false = true then q.its w2 else []) ++ _ = _
        rw [getD_set_ne false hne]
        by_cases hc : listed.getD q.i false = true
        · rw [if_pos hc, if_pos hc, hs q (by simp) hc]; rfl
        · rw [if_neg hc, if_neg hc]; rfl
      have e2 : itsD listed w (q :: mk) = (if listed.getD q.i false = true then q.its w else []) ++ itsD listed w mk := rfl
      rw [e1, e2]
      refine (List.Perm.append_left _ ih).trans ?_
      rw [← List.append_assoc, ← List.append_assoc]
      exact List.Perm.append_right _ List.perm_append_comm
def depsB (ops : Array Oper) (mk : List (Nat × List Nat)) : Bool := mk.all fun q => q.2.all fun j => waitB ops [q.1] j
theorem RO.makersD {l0 : Array Bool} (mk : List (MkD Wt)) (hs : List (Nat × Value)) {O0 : List Item} (w0 : Nat → Wt) (hB : makersB ops tail (hs.map (·.1)) (mk.map fun q => (q.i, q.d)) l0 = true) (hD : depsB ops (mk.map fun q => (q.i, q.dep)) = true) (hSO : Sub S O0)
    (hok : ∀ q ∈ mk, ∀ w w' : Nat → Wt, w q.i = w' q.i → (∀ j ∈ q.dep, w j = w' j) → q.val w = q.val w' ∧ q.its w = q.its w')
    (hg : ∀ q ∈ mk, ∃ o, ops[q.i]? = some o ∧ o.guard = none ∧
      ∀ (w : Nat → Wt) ρ O, Sub S O → Heads hs ρ → (∀ y ∈ mk, y.i ∈ q.dep → ρ y.d = y.val w) → LT P r base n o ρ O (fun ρ' O' => ∃ x, ρ' = upd ρ q.d (q.val (setW w q.i x)) ∧ O' = q.its (setW w q.i x) ++ O)) {fuel : Nat}
    (hK : ∀ (w : Nat → Wt) ρ, Heads ((mk.map fun q => (q.d, q.val w)) ++ hs) ρ → RO P r base n ops S tail [] [] fuel (mk.foldl (fun l q => l.setIfInBounds q.i true) l0) K ρ ((mk.flatMap fun q => q.its w) ++ O0))
    (hρ : Heads hs ρ) : RO P r base n ops S tail [] [] (fuel + mk.length) l0 K ρ O0 := by
  simp only [makersB, Bool.and_eq_true, List.map_map, Function.comp_def, Nat.beq_eq, decide_eq_true_eq, List.all_map] at hB
  obtain ⟨⟨⟨⟨⟨⟨b1, b2⟩, b3⟩, b4⟩, b5⟩, b6⟩, b7⟩ := hB
  have hdep : ∀ q ∈ mk, ∀ j ∈ q.dep, waitB ops [q.i] j = true := fun q hq j hj => by
    unfold depsB at hD
    have h1 := List.all_eq_true.1 hD (q.i, q.dep) (List.mem_map.2 ⟨q, hq, rfl⟩)
    exact List.all_eq_true.1 h1 j hj
  have b5' : ∀ q ∈ mk, ∀ x ∈ hs, x.1 ≠ q.d := fun q hq x hx e => by
    have h1 := List.all_eq_true.1 (List.all_eq_true.1 b5 q hq) x hx
    simp [e] at h1
  have b6' : ∀ q ∈ mk, waitB ops tail q.i = true ∧ q.i < ops.size ∧ q.i ∉ tail ∧ l0.getD q.i false = false := fun q hq => by
    have h1 := List.all_eq_true.1 b6 q hq
    simp only [Bool.and_eq_true, Nat.blt_eq, Bool.not_eq_true', List.contains_eq_mem, decide_eq_false_iff_not] at h1
    exact ⟨h1.1.1.1, h1.1.1.2, h1.1.2, h1.2⟩
  have b7' : ∀ j, j < ops.size → l0.getD j false = true ∨ j ∈ tail ∨ ∃ q ∈ mk, q.i = j := fun j hj => by
    have h1 := List.all_eq_true.1 b7 j (List.mem_range.2 hj)
    simp only [Bool.or_eq_true, List.contains_eq_mem, decide_eq_true_eq, List.mem_map] at h1
    rcases h1 with (h1 | h1) | h1
    · exact .inl h1
    · exact .inr (.inl h1)
    · exact .inr (.inr h1)
  have b3m : ((mk.map MkD.m).map (·.i)).Nodup := by rw [List.map_map]; exact b3
  have b4m : ((mk.map MkD.m).map (·.d)).Nodup := by rw [List.map_map]; exact b4
  have inj : ∀ x ∈ mk, ∀ y ∈ mk, x.i = y.i → x.d = y.d := fun x hx y hy e => congrArg Mk.d (inj_of_nodup b3m (List.mem_map_of_mem hx) (List.mem_map_of_mem hy) e)
  have inj2 : ∀ x ∈ mk, ∀ y ∈ mk, x.d = y.d → x.i = y.i := fun x hx y hy e => congrArg Mk.i (inj_of_nodup' b4m (List.mem_map_of_mem hx) (List.mem_map_of_mem hy) e)
  have same : ∀ x ∈ mk, ∀ y ∈ mk, x.i = y.i → x = y := by
    have : ∀ l : List (MkD Wt), (l.map (·.i)).Nodup → ∀ x ∈ l, ∀ y ∈ l, x.i = y.i → x = y := by
      intro l
      induction l with
      | nil => intro _ x hx; cases hx
      | cons q l ih =>
        intro h x hx y hy e
        have hn1 := (List.nodup_cons.1 (by simpa using h : (q.i :: l.map (·.i)).Nodup))
        rcases List.mem_cons.1 hx with e1 | hx1 <;> rcases List.mem_cons.1 hy with e2 | hy1
        · rw [e1, e2]
        · exact absurd (List.mem_map.2 ⟨y, hy1, by rw [← e, e1]⟩) hn1.1
        · exact absurd (List.mem_map.2 ⟨x, hx1, by rw [e, e2]⟩) hn1.1
        · exact ih hn1.2 x hx1 y hy1 e
    exact this mk b3
  have hfin : ∀ (mk' : List (MkD Wt)) (l : Array Bool) (j : Nat), (mk'.foldl (fun l q => l.setIfInBounds q.i true) l).size = l.size ∧ ((mk'.foldl (fun l q => l.setIfInBounds q.i true) l).getD j false = true ↔ (l.getD j false = true ∨ ((∃ q ∈ mk', q.i = j) ∧ j < l.size))) := by
    intro mk'
    induction mk' with
    | nil => intro l j; exact ⟨rfl, by simp⟩
    | cons q mk' ih =>
      intro l j
      obtain ⟨h1, h2⟩ := ih (l.setIfInBounds q.i true) j
      refine ⟨by rw [List.foldl_cons, h1]; simp, ?_⟩
      rw [List.foldl_cons, h2]
      by_cases e : q.i = j
      · subst e
        by_cases hlt : q.i < l.size
        · simp [hlt]
        · have : l.size ≤ q.i := by omega
          simp [hlt, this]
      · rw [getD_set_ne false e]
        simp only [Array.size_setIfInBounds, List.mem_cons, exists_eq_or_imp, e, false_or]
  suffices main : ∀ (m : Nat) (listed : Array Bool) (ρ : Env) (O : List Item) (w : Nat → Wt), left listed (mk.map MkD.m) = m → listed.size = ops.size → (∀ j, (∀ q ∈ mk, q.i ≠ j) → listed.getD j false = l0.getD j false) → Heads hs ρ → (∀ q ∈ mk, listed.getD q.i false = true → ρ q.d = q.val w ∧ ∀ j ∈ q.dep, listed.getD j false = true) → Sub (itsD listed w mk ++ O0) O → RO P r base n ops S tail [] [] (fuel + m) listed K ρ O by
    have e0 : left l0 (mk.map MkD.m) = mk.length := by
      unfold left
      rw [List.filter_eq_self.2 fun q hq => by
        obtain ⟨y, hy, rfl⟩ := List.mem_map.1 hq
        show (!l0.getD y.i false) = true
        rw [(b6' y hy).2.2.2]; rfl, List.length_map]
    have e1 : itsD l0 w0 mk = [] := by
      unfold itsD
      refine List.flatMap_eq_nil_iff.2 fun q hq => ?_
      rw [if_neg (by rw [(b6' q hq).2.2.2]; simp)]
    refine main mk.length l0 ρ O0 w0 e0 b1 (fun _ _ => rfl) hρ (fun q hq h => ?_) (by rw [e1]; exact Sub.of (List.Sublist.refl _))
    rw [(b6' q hq).2.2.2] at h; cases h
  intro m
  induction m with
  | zero =>
    intro listed ρ O w hm hsz hoff hH hv hsub
    have hall : ∀ q ∈ mk, listed.getD q.i false = true := fun q hq => by
      cases h : listed.getD q.i false with
      | true => rfl
      | false =>
        unfold left at hm
        have h0 := List.eq_nil_of_length_eq_zero hm
        have : q.m ∈ (mk.map MkD.m).filter fun q => !listed.getD q.i false := List.mem_filter.2 ⟨List.mem_map_of_mem hq, by show (!listed.getD q.i false) = true; rw [h]; rfl⟩
        rw [h0] at this; cases this
    have el : listed = mk.foldl (fun l q => l.setIfInBounds q.i true) l0 := by
      refine Array.ext ((hsz.trans b1.symm).trans (hfin mk l0 0).1.symm) fun j h1 h2 => ?_
      have hg1 : listed.getD j false = listed[j] := by simp [h1]
      have hg2 : (mk.foldl (fun l q => l.setIfInBounds q.i true) l0).getD j false = (mk.foldl (fun l q => l.setIfInBounds q.i true) l0)[j] := by simp [h2]
      rw [← hg1, ← hg2]
      have h3 := (hfin mk l0 j).2
      by_cases hq : ∃ q ∈ mk, q.i = j
      · obtain ⟨q, hq, rfl⟩ := hq
        rw [hall q hq, h3.2 (.inr ⟨⟨q, hq, rfl⟩, by rw [← hsz.trans b1.symm]; have h5 := (b6' q hq).2.1; omega⟩)]
      · have h4 := hoff j (fun q hq' e => hq ⟨q, hq', e⟩)
        rw [h4]
        cases hb : l0.getD j false with
        | true => rw [h3.2 (.inl hb)]
        | false =>
          cases hb2 : (mk.foldl (fun l q => l.setIfInBounds q.i true) l0).getD j false with
          | false => rfl
          | true =>
            rcases h3.1 hb2 with h5 | h5
            · rw [hb] at h5; cases h5
            · exact absurd h5.1 hq
    have ei : itsD listed w mk = mk.flatMap fun q => q.its w := by
      unfold itsD
      rw [List.flatMap_def, List.flatMap_def]
      congr 1
      exact List.map_congr_left fun q hq => if_pos (hall q hq)
    have hh : Heads ((mk.map fun q => (q.d, q.val w)) ++ hs) ρ := by
      refine Heads.append ?_ hH
      have : ∀ mk' : List (MkD Wt), (∀ q ∈ mk', ρ q.d = q.val w) → Heads (mk'.map fun q => (q.d, q.val w)) ρ := by
        intro mk'
        induction mk' with
        | nil => intro _; trivial
        | cons q mk' ih => intro h; exact ⟨h q (by simp), ih fun x hx => h x (by simp [hx])⟩
      exact this mk fun q hq => (hv q hq (hall q hq)).1
    rw [el]
    exact RO.sub (by rw [← ei]; exact hsub) (hK w ρ hh)
  | succ m ih =>
    intro listed ρ O w hm hsz hoff hH hv hsub
    have hex : ∃ q ∈ mk, listed.getD q.i false = false := by
      cases h : (mk.map MkD.m).filter fun q => !listed.getD q.i false with
      | nil => unfold left at hm; rw [h] at hm; cases hm
      | cons q l =>
        have hq : q ∈ (mk.map MkD.m).filter fun q => !listed.getD q.i false := by rw [h]; simp
        obtain ⟨h1, h2⟩ := List.mem_filter.1 hq
        obtain ⟨y, hy, rfl⟩ := List.mem_map.1 h1
        exact ⟨y, hy, by simpa [MkD.m] using h2⟩
    have hle : ∀ j, l0.getD j false = true → listed.getD j false = true := fun j hj => by
      rw [hoff j (fun q hq e => by subst e; rw [(b6' q hq).2.2.2] at hj; cases hj)]; exact hj
    have hSub : Sub S O := hSO.trans ((Sub.of (List.sublist_append_right _ _)).trans hsub)
    intro Q a ww M D hq hp ha hI hcl hS
    refine ⟨fun h1 => ?_, fun j hj => ?_⟩
    · obtain ⟨q, hq1, hq2⟩ := hex
      obtain ⟨i, _, hi⟩ := ready_first (is := mk.map (·.i)) (listed := listed) (by omega) b2 hle ⟨q.i, List.mem_map.2 ⟨q, hq1, rfl⟩, by rw [getD_lt (by rw [hsz]; exact (b6' q hq1).2.1) true false]; exact hq2⟩
      rw [h1] at hi; cases hi
    · obtain ⟨hju, oj, hoj, _⟩ := mem_ready.1 hj
      have hjs : j < ops.size := (Array.getElem?_eq_some_iff.1 hoj).1
      have hjf : listed.getD j false = false := by rw [getD_lt (by omega) false true]; exact hju
      obtain ⟨q, hq1, rfl⟩ : ∃ q ∈ mk, q.i = j := by
        rcases b7' j hjs with h1 | h1 | h1
        · rw [hle j h1] at hjf; cases hjf
        · obtain ⟨q, hq1, hq2⟩ := hex
          have := waitB_spec (b6' q hq1).1 hcl h1 hj
          rw [hq2] at this; cases this
        · exact h1
      have hdl : ∀ j ∈ q.dep, listed.getD j false = true := fun j hj9 => waitB_spec (hdep q hq1 j hj9) hcl (List.mem_singleton.2 rfl) hj
      obtain ⟨o, hi, hgd, hl⟩ := hg q hq1
      unfold wpOpIn
      simp only [hi]
      rw [if_pos (by simp [Region.wanted, hgd])]
      refine hl w ρ O hSub hH (fun y hy hyd => (hv y hy (hdl _ hyd)).1) a ww _ _ ha hI _ _ fun a' ρ' O' w' h1 h2 h3 => ?_
      obtain ⟨x, rfl, rfl⟩ := h3
      have hcl' : classT base S tail [] [] (listed.setIfInBounds q.i true) w' := ⟨h2.emp, .inr (h2.left.subp (hSub.trans (Sub.of (List.sublist_append_right _ _)))), .inr h2.emp⟩
      refine ⟨hcl', ?_⟩
      have hlt : q.i < listed.size := by omega
      have stab : ∀ y ∈ mk, listed.getD y.i false = true → y.val (setW w q.i x) = y.val w ∧ y.its (setW w q.i x) = y.its w := fun y hy hyl =>
        hok y hy _ _ (setW_ne w x fun e => by rw [e, hjf] at hyl; cases hyl) fun k hk => setW_ne w x fun e => by
          have h9 := (hv y hy hyl).2 k hk
          rw [e, hjf] at h9; cases h9
      refine ih (listed.setIfInBounds q.i true) (upd ρ q.d (q.val (setW w q.i x))) (q.its (setW w q.i x) ++ O) (setW w q.i x) ?_ (by simpa using hsz) ?_ (Heads.updN (b5' q hq1) hH) ?_ ?_ Q a' w' M D hq hp h1 h2 (closed_step hcl hj) hcl'
      · have := left_set (x := q.m) hlt hjf b3m (List.mem_map_of_mem hq1)
        have h9 : left listed (mk.map MkD.m) = left (listed.setIfInBounds q.i true) (mk.map MkD.m) + 1 := this
        omega
      · intro k hk
        rw [getD_set_ne false (hk q hq1)]; exact hoff k hk
      · intro y hy hyl
        by_cases e : y.i = q.i
        · have : y = q := same y hy q hq1 e
          subst this
          exact ⟨upd_self, fun k hk => by
            by_cases e2 : k = y.i
            · subst e2; simp [hlt]
            · rw [getD_set_ne false (fun e3 => e2 e3.symm)]; exact hdl k hk⟩
        · have hd : y.d ≠ q.d := fun e2 => e (inj2 y hy q hq1 e2)
          have hyl0 : listed.getD y.i false = true := by rwa [getD_set_ne false (fun e3 => e e3.symm)] at hyl
          refine ⟨by rw [upd_ne hd, (stab y hy hyl0).1]; exact (hv y hy hyl0).1, fun k hk => ?_⟩
          by_cases e2 : k = q.i
          · subst e2; simp [hlt]
          · rw [getD_set_ne false (fun e3 => e2 e3.symm)]; exact (hv y hy hyl0).2 k hk
      · refine Sub.trans ⟨_, (List.Perm.append_right O0 (itsD_set hlt hjf b3 hq1 fun y hy hyl => (stab y hy hyl).2)), List.Sublist.refl _⟩ ?_
        rw [List.append_assoc]
        obtain ⟨l9, p9, s9⟩ := hsub
        exact ⟨q.its (setW w q.i x) ++ l9, List.Perm.append_left _ p9, (List.Sublist.refl _).append s9⟩
def mkAt (mk : List (MkD Wt)) (j : Nat) (q : MkD Wt) : MkD Wt := (mk.find? fun y => Nat.beq y.i j).getD q
def hasB (mk : List (Nat × List Nat)) : Bool := mk.all fun q => q.2.all fun j => mk.any fun y => Nat.beq y.1 j
theorem mkAt_mem {mk : List (MkD Wt)} {j : Nat} (q : MkD Wt) (h : (mk.any fun y => Nat.beq y.i j) = true) : mkAt mk j q ∈ mk ∧ (mkAt mk j q).i = j := by
  unfold mkAt
  obtain ⟨y, hy, hj⟩ := List.any_eq_true.1 h
  cases e : mk.find? fun y => Nat.beq y.i j with
  | none => exact absurd hj (by have := List.find?_eq_none.1 e y hy; exact this)
  | some z =>
    have h9 : Nat.beq z.i j = true := List.find?_some (p := fun y : MkD Wt => Nat.beq y.i j) e
    exact ⟨List.mem_of_find?_eq_some e, Nat.eq_of_beq_eq_true h9⟩
theorem RO.makersH {l0 : Array Bool} (mk : List (MkD Wt)) (hs : List (Nat × Value)) {O0 : List Item} (w0 : Nat → Wt) (hB : makersB ops tail (hs.map (·.1)) (mk.map fun q => (q.i, q.d)) l0 = true) (hD : depsB ops (mk.map fun q => (q.i, q.dep)) = true) (hE : hasB (mk.map fun q => (q.i, q.dep)) = true) (hSO : Sub S O0)
    (hok : ∀ q ∈ mk, ∀ w w' : Nat → Wt, w q.i = w' q.i → (∀ j ∈ q.dep, w j = w' j) → q.val w = q.val w' ∧ q.its w = q.its w')
    (hg : ∀ q ∈ mk, ∃ o, ops[q.i]? = some o ∧ o.guard = none ∧
      ∀ (w : Nat → Wt) ρ O, Sub S O → Heads ((q.dep.map fun j => ((mkAt mk j q).d, (mkAt mk j q).val w)) ++ hs) ρ → LT P r base n o ρ O (fun ρ' O' => ∃ x, ρ' = upd ρ q.d (q.val (setW w q.i x)) ∧ O' = q.its (setW w q.i x) ++ O)) {fuel : Nat}
    (hK : ∀ (w : Nat → Wt) ρ, Heads ((mk.map fun q => (q.d, q.val w)) ++ hs) ρ → RO P r base n ops S tail [] [] fuel (mk.foldl (fun l q => l.setIfInBounds q.i true) l0) K ρ ((mk.flatMap fun q => q.its w) ++ O0))
    (hρ : Heads hs ρ) : RO P r base n ops S tail [] [] (fuel + mk.length) l0 K ρ O0 :=
  RO.makersD mk hs w0 hB hD hSO hok (fun q hq => by
    obtain ⟨o, h1, h2, h3⟩ := hg q hq
    refine ⟨o, h1, h2, fun w ρ O hS hH hd => h3 w ρ O hS (Heads.append ?_ hH)⟩
    have hin : ∀ j ∈ q.dep, (mk.any fun y => Nat.beq y.i j) = true := fun j hj => by
      unfold hasB at hE
      have h4 := List.all_eq_true.1 (List.all_eq_true.1 hE (q.i, q.dep) (List.mem_map.2 ⟨q, hq, rfl⟩)) j hj
      rw [List.any_map] at h4; exact h4
    have : ∀ l : List Nat, (∀ j ∈ l, j ∈ q.dep) → Heads (l.map fun j => ((mkAt mk j q).d, (mkAt mk j q).val w)) ρ := by
      intro l
      induction l with
      | nil => intro _; trivial
      | cons j l ih =>
        intro hl
        obtain ⟨m1, m2⟩ := mkAt_mem q (hin j (hl j (by simp)))
        exact ⟨hd _ m1 (by rw [m2]; exact hl j (by simp)), ih fun k hk => hl k (by simp [hk])⟩
    exact this q.dep fun _ h => h) hK hρ
end
end Go.Lx


/- A region whose order Go leaves open: whatever order is drawn, it comes out as one walk says, in which the quiet operations are taken as soon as they may come up. -/
import Derived.Test.YthfemndklplpbaaDoorCoreA
set_option linter.unusedSectionVars false
set_option linter.unusedSimpArgs false
set_option linter.unusedVariables false
set_option linter.unnecessarySimpa false
namespace Go.Lx
open Go.RowKit

/-- No deferred call is made in the region. -/
def noDeferB (ops : Array Oper) : Bool := ops.all fun o => match o.op with | .defer _ => false | _ => true

theorem noDefer_spec {ops : Array Oper} (h : noDeferB ops = true) {j : Nat} {o : Oper} (hj : ops[j]? = some o) : ∀ c, o.op ≠ .defer c := by
  intro c e
  unfold noDeferB at h
  rw [Array.all_eq_true'] at h
  have := h o (Array.mem_of_getElem? hj)
  rw [e] at this
  cases this

/-- Whatever order is picked from here on; the worlds stay in the class C (which may hang on what is done). -/
def anyC (P : Program) (r : Option Nat) (ops : Array Oper) (C : Array Bool → World → Prop) (Q : Exit → Act → World → Prop) : Nat → Array Bool → Act → World → Prop
  | 0, listed, a, w => Region.ready .any ops listed = [] ∧ Q .normal a w
  | fuel + 1, listed, a, w =>
    (Region.ready .any ops listed = [] → Q .normal a w) ∧
    ∀ i ∈ Region.ready .any ops listed, wpOpIn (Fr r) 0 P ops Q i (fun a' w' => C (listed.setIfInBounds i true) w' ∧ anyC P r ops C Q fuel (listed.setIfInBounds i true) a' w') a w

theorem wpAny_of_anyC {P : Program} {r : Option Nat} {ops : Array Oper} {C : Array Bool → World → Prop} {Q : Exit → Act → World → Prop} : ∀ (fuel : Nat) (listed : Array Bool) (a : Act) (w : World),
    anyC P r ops C Q fuel listed a w → wpAnyIn (Fr r) 0 P .any ops Q fuel listed a w
  | 0, _, _, _, h => h
  | fuel + 1, _, _, _, h => ⟨h.1, fun i hi => wpOpIn_mono (fun a' w' h' => wpAny_of_anyC fuel _ a' w' h'.2) (h.2 i hi)⟩

/-- What an operation waits for is done. -/
def closed (ops : Array Oper) (listed : Array Bool) : Prop := ∀ k o, listed.getD k false = true → ops[k]? = some o → ∀ e ∈ o.after, Region.binds .any e = true → listed.getD e.on false = true

theorem closed_start (ops : Array Oper) (m : Nat) : closed ops (Array.replicate m false) := fun k o h => by
  rw [Array.getD_eq_getD_getElem?, Array.getElem?_replicate] at h
  split at h <;> simp at h

theorem closed_step {ops : Array Oper} {listed : Array Bool} {i : Nat} (h : closed ops listed) (hi : i ∈ Region.ready .any ops listed) : closed ops (listed.setIfInBounds i true) := by
  intro k o hk ho e he hb
  obtain ⟨_, oi, hoi, hall⟩ := mem_ready.1 hi
  by_cases hki : i = k
  · subst hki
    rw [ho] at hoi; cases hoi
    exact getD_set_true (hall e he hb)
  · rw [getD_set_ne false hki] at hk
    exact getD_set_true (h k o hk ho e he hb)

/-- The operations that the marked ones wait for are marked, too. -/
def growB (ops : Array Oper) (m : Array Bool) : Array Bool := (Array.range ops.size).map fun k =>
  m.getD k false || (Array.range ops.size).any fun j => m.getD j false && ((ops[j]?).map fun o => o.after.any fun e => Region.binds .any e && e.on == k).getD false

def growN (ops : Array Oper) : Nat → Array Bool → Array Bool
  | 0, m => m
  | r + 1, m => growN ops r (growB ops m)

theorem growB_sub {ops : Array Oper} {listed m : Array Bool} (hc : closed ops listed) (h : ∀ k, m.getD k false = true → listed.getD k false = true) : ∀ k, (growB ops m).getD k false = true → listed.getD k false = true := by
  intro k hk
  unfold growB at hk
  rw [Array.getD_eq_getD_getElem?, Array.getElem?_map, Array.getElem?_range] at hk
  split at hk
  · simp only [Option.map_some, Option.getD_some, Bool.or_eq_true, Array.any_eq_true', Array.mem_range, Bool.and_eq_true] at hk
    rcases hk with hk | ⟨j, _, hj, hk⟩
    · exact h k hk
    · cases ho : ops[j]? with
      | none => rw [ho] at hk; simp at hk
      | some o =>
        rw [ho] at hk
        simp only [Option.map_some, Option.getD_some, Array.any_eq_true', Bool.and_eq_true, beq_iff_eq] at hk
        obtain ⟨e, he, hb, rfl⟩ := hk
        exact hc j o (h j hj) ho e he hb
  · simp at hk

theorem growN_sub {ops : Array Oper} {listed : Array Bool} (hc : closed ops listed) : ∀ (r : Nat) (m : Array Bool), (∀ k, m.getD k false = true → listed.getD k false = true) → ∀ k, (growN ops r m).getD k false = true → listed.getD k false = true
  | 0, _, h => h
  | r + 1, _, h => growN_sub hc r _ (growB_sub hc h)

/-- Each operation of tl waits for operation i. -/
def waitB (ops : Array Oper) (tl : List Nat) (i : Nat) : Bool := tl.all fun b => (growN ops ops.size ((Array.range ops.size).map fun k => ((ops[b]?).map fun o => o.after.any fun e => Region.binds .any e && e.on == k).getD false)).getD i false

theorem waitB_spec {ops : Array Oper} {tl : List Nat} {i : Nat} {listed : Array Bool} (ht : waitB ops tl i = true) (hc : closed ops listed) {b : Nat} (hb : b ∈ tl) (hr : b ∈ Region.ready .any ops listed) : listed.getD i false = true := by
  simp only [waitB, List.all_eq_true] at ht
  have h1 := ht b hb
  obtain ⟨_, o, ho, hall⟩ := mem_ready.1 hr
  refine growN_sub hc ops.size _ ?_ i h1
  intro q hq
  rw [Array.getD_eq_getD_getElem?, Array.getElem?_map, Array.getElem?_range] at hq
  split at hq
  · rw [ho] at hq
    simp only [Option.map_some, Option.getD_some, Array.any_eq_true', Bool.and_eq_true, beq_iff_eq] at hq
    obtain ⟨e, he, hb, rfl⟩ := hq
    exact hall e he hb
  · simp at hq

theorem waitB_done {ops : Array Oper} {tl : List Nat} {i : Nat} {listed : Array Bool} (ht : waitB ops tl i = true) (hc : closed ops listed) {b : Nat} (hb : b ∈ tl) (hl : listed.getD b false = true) : listed.getD i false = true := by
  simp only [waitB, List.all_eq_true] at ht
  have h1 := ht b hb
  refine growN_sub hc ops.size _ ?_ i h1
  intro q hq
  rw [Array.getD_eq_getD_getElem?, Array.getElem?_map, Array.getElem?_range] at hq
  split at hq
  · cases hob : ops[b]? with
    | none => rw [hob] at hq; simp at hq
    | some o =>
      rw [hob] at hq
      simp only [Option.map_some, Option.getD_some, Array.any_eq_true', Bool.and_eq_true, beq_iff_eq] at hq
      obtain ⟨e, he, hb, rfl⟩ := hq
      exact hc b o hl hob e he hb
  · simp at hq

/-- The class: until the tail begins, the items S are as said; until the second tail begins, the items S2. -/
structure classT (base : World) (S : List Item) (tail : List Nat) (S2 : List Item) (tail2 : List Nat) (listed : Array Bool) (w : World) : Prop where
  emp : Inv base [] w
  one : (tail.any fun b => listed.getD b false) = true ∨ Inv base S w
  two : (tail2.any fun b => listed.getD b false) = true ∨ Inv base S2 w

theorem any_keep {tail : List Nat} {listed : Array Bool} {i : Nat} (hi : i ∉ tail) (h : (tail.any fun b => (listed.setIfInBounds i true).getD b false) = true) : (tail.any fun b => listed.getD b false) = true := by
  rw [List.any_eq_true] at h ⊢
  obtain ⟨b, hb, hl⟩ := h
  exact ⟨b, hb, by rwa [getD_set_ne (i := i) (j := b) false (fun e => hi (e ▸ hb))] at hl⟩

theorem classT.keep {base : World} {S S2 : List Item} {tail tail2 : List Nat} {listed : Array Bool} {w : World} {i : Nat} (hi : i ∉ tail) (hi2 : i ∉ tail2) (h : classT base S tail S2 tail2 (listed.setIfInBounds i true) w) : classT base S tail S2 tail2 listed w :=
  ⟨h.emp, h.one.imp (any_keep hi) id, h.two.imp (any_keep hi2) id⟩

/-- The operation yields v in every world of the class (or it is passed over). -/
def YC (P : Program) (ops : Array Oper) (C : World → Prop) (o : Oper) (v : Value) (a : Act) : Prop :=
  (Region.wanted o (yielded ops a.tmps) = true ∧ ∀ w, C w → (execOp a.eval o).run P w = .ok (.value v) w) ∨
  (Region.wanted o (yielded ops a.tmps) = false ∧ v = undef)

theorem YC.wpOp {P : Program} {r : Option Nat} {ops : Array Oper} {C : World → Prop} {Q : Exit → Act → World → Prop} {i : Nat} {o : Oper} {v : Value} {a : Act} (hi : ops[i]? = some o) (hnd : ∀ c, o.op ≠ .defer c) (hy : YC P ops C o v a)
    {K : Act → World → Prop} {w : World} (hC : C w) (h : K (a.put o.dst v) w) : wpOpIn (Fr r) 0 P ops Q i K a w := by
  unfold Go.wpOpIn
  simp only [hi]
  rcases hy with ⟨hw, hv⟩ | ⟨hw, rfl⟩
  · simp only [hw, if_true]
    refine wpIn_Fr hnd ?_
    rw [hv w hC]; exact h
  · simp only [hw, Bool.false_eq_true, if_false]; exact ⟨fun _ _ => trivial, h⟩

theorem YC.of_same {P : Program} {ops : Array Oper} {C : World → Prop} {o : Oper} {v : Value} {a a' : Act} (hy : YC P ops C o v a) (he : execOp a'.eval o = execOp a.eval o)
    (hw : Region.wanted o (yielded ops a'.tmps) = Region.wanted o (yielded ops a.tmps)) : YC P ops C o v a' := by
  unfold YC at *
  rw [he, hw]
  exact hy

theorem wpOp_putC {P : Program} {r : Option Nat} {ops : Array Oper} {C : World → Prop} {Q : Exit → Act → World → Prop} {j : Nat} {oi oj : Oper} {v : Value} (hj : ops[j]? = some oj) (hap : oi.apart ops oj = true)
    (hsi : ∀ cs b, oi.op ≠ .select cs b) (hsj : ∀ cs b, oj.op ≠ .select cs b) (hdj : ∀ c, oj.op ≠ .defer c)
    (hQ : ∀ c a w, ¬ Q (.panic c) a w) {K : Act → World → Prop} {a : Act} {w : World}
    (hy : YC P ops C oi v a) (h : wpOpIn (Fr r) 0 P ops Q j (fun a' w' => C w' ∧ K a' w') (a.put oi.dst v) w) :
    wpOpIn (Fr r) 0 P ops Q j (fun a' w' => C w' ∧ YC P ops C oi v a' ∧ K (a'.put oi.dst v) w') a w := by
  obtain ⟨h1, h2, h3⟩ := Oper.apart_spec hap
  have keep : ∀ (a : Act), YC P ops C oi v a → ∀ u, YC P ops C oi v (a.put oj.dst u) := fun a hy u =>
    hy.of_same (execOp_put oi hsi a oj.dst u h3) (wanted_put oi a oj.dst u h3)
  have keepD : ∀ d, YC P ops C oi v { a with defers := d :: a.defers } := fun d => hy.of_same rfl rfl
  unfold wpOpIn at *
  simp only [hj] at *
  rw [wanted_put oj a oi.dst v h1] at h
  split
  · rename_i hw
    simp only [hw, if_true] at h
    have h := h.2
    rw [Oper.semAt_eq _ _ _ hdj, execOp_put oj hsj a oi.dst v h1] at h
    refine wpIn_Fr hdj ?_
    generalize (execOp a.eval oj).run P w = r at *
    cases r with
    | ok n w' =>
      cases n <;> simp only [Oper.uponIn] at h ⊢
      case value u => exact ⟨h.1, keep a hy u, by rw [← Act.put_comm a v u h2]; exact h.2⟩
      case skip => exact ⟨h.1, keep a hy _, by rw [← Act.put_comm a v undef h2]; exact h.2⟩
      case defer d =>
        refine ⟨h.1, keep _ (keepD d) _, ?_⟩
        rw [← Act.put_comm _ v undef h2, ← Act.put_defers]
        exact h.2
      case enter f args =>
        refine ⟨h.1, CallsIn.mono h.2 fun e w'' he => ?_⟩
        cases e with
        | returned u => exact ⟨he.1, keep a hy u, by rw [← Act.put_comm a v u h2]; exact he.2⟩
        | panicked c => exact (hQ _ _ _ he).elim
        | outgrown => exact he
      case row row args => exact ⟨h.1, RowsIn.mono h.2 fun u w'' he => ⟨he.1, keep a hy u, by rw [← Act.put_comm a v u h2]; exact he.2⟩⟩
      case round l f tmps assign body =>
        refine ⟨h.1, RoundIn.mono h.2 fun e w'' he => ?_⟩
        cases e with
        | returned u => exact ⟨he.1, keep a hy u, by rw [← Act.put_comm a v u h2]; exact he.2⟩
        | panicked c => exact (hQ _ _ _ he).elim
        | outgrown => exact he
    | halt x w' =>
      cases x <;> simp only [Oper.uponIn] at h ⊢
      case panic u => exact (hQ _ _ _ h).elim
  · rename_i hw
    simp only [hw] at h
    exact ⟨fun _ _ => trivial, h.2.1, keep a hy _, by rw [← Act.put_comm a v undef h2]; exact h.2.2⟩

/-- An operation that may come up now, and is none of the tails, may be taken first. Z: the items that it leans on, until one of zt is done, each of which waits for it. -/
theorem anyC_first {P : Program} {r : Option Nat} {ops : Array Oper} {base : World} {S S2 Z : List Item} {tail tail2 zt : List Nat} {Q : Exit → Act → World → Prop} {i : Nat} {oi : Oper} {v : Value} (hi : ops[i]? = some oi) (hit : i ∉ tail) (hit2 : i ∉ tail2) (ht : waitB ops zt i = true)
    (hz : ∀ listed w, classT base S tail S2 tail2 listed w → (zt.any fun b => listed.getD b false) = true ∨ Inv base Z w) (hiz : i ∉ zt)
    (hsel : ∀ (j : Nat) (o : Oper) cs b, ops[j]? = some o → o.op ≠ .select cs b) (hnd : noDeferB ops = true) (hQ : ∀ c a w, ¬ Q (.panic c) a w) :
    ∀ (fuel : Nat) (listed : Array Bool) (a : Act) (w : World), closed ops listed →
      (∀ j oj, ops[j]? = some oj → j ≠ i → listed.getD j true = false → (∀ e ∈ oj.after, Region.binds .any e = true → e.on ≠ i) → oi.apart ops oj = true) →
      i ∈ Region.ready .any ops listed → YC P ops (Inv base Z) oi v a → Inv base Z w → classT base S tail S2 tail2 listed w →
      anyC P r ops (classT base S tail S2 tail2) Q fuel (listed.setIfInBounds i true) (a.put oi.dst v) w → anyC P r ops (classT base S tail S2 tail2) Q (fuel + 1) listed a w := by
  have up : ∀ {listed : Array Bool} {w : World}, classT base S tail S2 tail2 listed w → classT base S tail S2 tail2 (listed.setIfInBounds i true) w := fun {listed w} h => by
    have grow : ∀ tl : List Nat, (tl.any fun b => listed.getD b false) = true → (tl.any fun b => (listed.setIfInBounds i true).getD b false) = true := fun tl h => by
      rw [List.any_eq_true] at h ⊢
      obtain ⟨b, hb, hl⟩ := h
      exact ⟨b, hb, getD_set_true hl⟩
    exact ⟨h.emp, h.one.imp (grow _) id, h.two.imp (grow _) id⟩
  intro fuel
  induction fuel with
  | zero =>
    intro listed a w hcl _ hr hy hC hC0 H
    refine ⟨fun h => (by rw [h] at hr; cases hr), fun j hj => ?_⟩
    by_cases hji : j = i
    · subst hji; exact hy.wpOp hi (noDefer_spec hnd hi) hC ⟨up hC0, H⟩
    · have := ready_mono hj hji
      rw [H.1] at this
      cases this
  | succ fuel ih =>
    intro listed a w hcl hfree hr hy hC hC0 H
    refine ⟨fun h => (by rw [h] at hr; cases hr), fun j hj => ?_⟩
    by_cases hji : j = i
    · subst hji; exact hy.wpOp hi (noDefer_spec hnd hi) hC ⟨up hC0, H⟩
    · have hiun := (mem_ready.1 hr).1
      have hno : ∀ {x : Array Bool}, x.getD i true = false → x.getD i false = true → False := fun {x} h1 h2 => by
        rcases Nat.lt_or_ge i x.size with h' | h'
        · simp [h'] at h1 h2; rw [h1] at h2; cases h2
        · simp [Array.getElem?_eq_none h'] at h2
      have hjt : j ∉ zt := fun hjt => hno hiun (waitB_spec ht hcl hjt hj)
      have h1 := H.2 j (ready_mono hj hji)
      obtain ⟨hjun, oj, hoj, hall⟩ := mem_ready.1 hj
      have hnot : ∀ e ∈ oj.after, Region.binds .any e = true → e.on ≠ i := fun e he hb heq => by
        have h1 := hall e he hb
        rw [heq] at h1
        exact hno hiun h1
      -- none of zt is done yet
      have hnone : (zt.any fun b => (listed.setIfInBounds j true).getD b false) = false := by
        rw [List.any_eq_false]
        intro b hb hl
        rw [getD_set_ne (i := j) (j := b) false (fun e => hjt (e ▸ hb))] at hl
        exact hno hiun (waitB_done ht hcl hb hl)
      have h1' : wpOpIn (Fr r) 0 P ops Q j (fun a' w' => Inv base Z w' ∧ (classT base S tail S2 tail2 (listed.setIfInBounds j true) w' ∧ anyC P r ops (classT base S tail S2 tail2) Q fuel ((listed.setIfInBounds i true).setIfInBounds j true) a' w')) (a.put oi.dst v) w := by
        refine wpOpIn_mono (fun a' w' h3 => ?_) h1
        have hc := h3.1
        rw [Array.setIfInBounds_comm _ _ (Ne.symm hji)] at hc
        have hc' := hc.keep hit hit2
        refine ⟨?_, hc', h3.2⟩
        rcases hz _ _ hc' with h | h
        · rw [hnone] at h; cases h
        · exact h
      have h2 := wpOp_putC hoj (hfree j oj hoj hji hjun hnot) (fun cs b => hsel i oi cs b hi) (fun cs b => hsel j oj cs b hoj) (noDefer_spec hnd hoj) hQ hy h1'
      have hfree' : ∀ k ok, ops[k]? = some ok → k ≠ i → (listed.setIfInBounds j true).getD k true = false →
          (∀ e ∈ ok.after, Region.binds .any e = true → e.on ≠ i) → oi.apart ops ok = true := fun k ok hk hki hun hno => by
        refine hfree k ok hk hki ?_ hno
        by_cases hjk : j = k
        · subst hjk; exact hjun
        · rw [getD_set_ne true hjk] at hun; exact hun
      refine wpOpIn_mono (fun a' w' h3 => ⟨h3.2.2.1, ih (listed.setIfInBounds j true) a' w' (closed_step hcl hj) hfree' (ready_mono hr (Ne.symm hji)) h3.2.1 h3.1 h3.2.2.1 ?_⟩) h2
      rw [Array.setIfInBounds_comm _ _ hji]
      exact h3.2.2.2

/-- A region under way, the operations in 'listed' done. S: the items that the quiet operations lean on, until the tail begins; S2: those that some lean on, until the second tail begins. -/
def RO (P : Program) (r : Option Nat) (base : World) (n : Nat) (ops : Array Oper) (S : List Item) (tail : List Nat) (S2 : List Item) (tail2 : List Nat) (fuel : Nat) (listed : Array Bool) (K : Env → List Item → Prop) (ρ : Env) (O : List Item) : Prop :=
  ∀ (Q : Post) a w M D, (∀ ρ O, K ρ O → Q .normal ρ O) → (∀ c ρ O, ¬ Q (.panic c) ρ O) → Ag n (mD D) a ρ → Inv base (O ++ (mI D ++ M)) w → closed ops listed → classT base S tail S2 tail2 listed w → anyC P r ops (classT base S tail S2 tail2) (lift base n M Q) fuel listed a w

section
variable {P : Program} {r : Option Nat} {base : World} {n : Nat} {Q : Post} {ρ : Env} {O S S2 : List Item} {tail tail2 : List Nat} {ops : Array Oper} {K : Env → List Item → Prop}

theorem Inv.emp {base : World} {O : List Item} {w : World} (h : Inv base O w) : Inv base [] w := h.sub (List.nil_sublist _)

theorem up_any {tl : List Nat} {listed : Array Bool} {i : Nat} (h : (tl.any fun b => listed.getD b false) = true) : (tl.any fun b => (listed.setIfInBounds i true).getD b false) = true := by
  rw [List.any_eq_true] at h ⊢
  obtain ⟨b, hb, hl⟩ := h
  exact ⟨b, hb, getD_set_true hl⟩

/-- A quiet one, guarded or not, that leans on Z. -/
theorem RO.quietZ {fuel : Nat} {listed : Array Bool} (i : Nat) {d : Nat} {op : Op} {t : TypeId} {p : String} {af : Array Edge} {g : Option (Nat × Bool)} {v : Value} {Z : List Item} {zt : List Nat} (hi : ops[i]? = some ⟨some d, op, t, p, af, g⟩)
    (hz : ∀ listed w, classT base S tail S2 tail2 listed w → (zt.any fun b => listed.getD b false) = true ∨ Inv base Z w) (hiz : i ∉ zt) (ht : waitB ops zt i = true)
    (hs : Region.noSelect ops = true) (hnd : noDeferB ops = true) (hit : i ∉ tail) (hit2 : i ∉ tail2) (hf : Region.free .any ops listed i = true) (hr : (Region.ready .any ops listed).contains i = true)
    (h : ∀ ds a, Ag n ds a ρ → YC P ops (Inv base Z) ⟨some d, op, t, p, af, g⟩ v a) (hn : Nat.blt d n = true) (hk : RO P r base n ops S tail S2 tail2 fuel (listed.setIfInBounds i true) K (upd ρ d v) O) :
    RO P r base n ops S tail S2 tail2 (fuel + 1) listed K ρ O := by
  intro Q a w M D hq hp ha hI hcl hS
  have hr' : i ∈ Region.ready .any ops listed := by simpa using hr
  have hno : listed.getD i false = true → False := fun h2 => by
    have h1 := (mem_ready.1 hr').1
    rcases Nat.lt_or_ge i listed.size with h' | h'
    · simp [h'] at h1 h2; rw [h1] at h2; cases h2
    · simp [Array.getElem?_eq_none h'] at h2
  have hZ : Inv base Z w := (hz _ _ hS).resolve_left (by
    intro h
    rw [List.any_eq_true] at h
    obtain ⟨b, hb, hl⟩ := h
    exact hno (waitB_done ht hcl hb hl))
  exact anyC_first hi hit hit2 ht hz hiz (Region.noSelect_spec hs) hnd (fun c a w ⟨ρ, O, _, _, _, h⟩ => hp c ρ O h) fuel listed a w hcl (Region.free_spec hi hf) hr' (h _ a ha) hZ hS
    (hk Q _ w M D hq hp (ha.put hn v) hI (closed_step hcl hr') ⟨hS.emp, hS.one.imp up_any id, hS.two.imp up_any id⟩)

/-- One that writes, makes memory or calls: it must be the one operation that may come up now. -/
theorem RO.loud {fuel : Nat} {listed : Array Bool} (i : Nat) {o : Oper} (hi : ops[i]? = some o) (hg : o.guard = none) (hr : Region.ready .any ops listed = [i])
    (h : LT P r base n o ρ O (fun ρ' O' => (i ∈ tail ∨ Sub S O') ∧ (i ∈ tail2 ∨ Sub S2 O') ∧ RO P r base n ops S tail S2 tail2 fuel (listed.setIfInBounds i true) K ρ' O')) : RO P r base n ops S tail S2 tail2 (fuel + 1) listed K ρ O := by
  intro Q a w M D hq hp ha hI hcl hS
  refine ⟨fun h0 => (by rw [hr] at h0; cases h0), fun j hj => ?_⟩
  rw [hr] at hj
  obtain rfl : j = i := by simpa using hj
  have hj' : j ∈ Region.ready .any ops listed := by rw [hr]; simp
  have hlt : j < listed.size := by
    have := (mem_ready.1 hj').1
    rcases Nat.lt_or_ge j listed.size with h' | h'
    · exact h'
    · simp [Array.getElem?_eq_none h'] at this
  unfold wpOpIn
  simp only [hi]
  rw [if_pos (by simp [Region.wanted, hg])]
  refine h a w _ _ ha hI _ _ fun a' ρ' O' w' h1 h2 h3 => ?_
  have hcase : ∀ (tl : List Nat) (Z : List Item), (j ∈ tl ∨ Sub Z O') → (tl.any fun b => (listed.setIfInBounds j true).getD b false) = true ∨ Inv base Z w' := fun tl Z h3 => by
    rcases h3 with h4 | h4
    · refine .inl (List.any_eq_true.2 ⟨j, h4, ?_⟩)
      simp [hlt]
    · exact .inr (h2.left.subp h4)
  have hcl' : classT base S tail S2 tail2 (listed.setIfInBounds j true) w' := ⟨h2.emp, hcase _ _ h3.1, hcase _ _ h3.2.1⟩
  exact ⟨hcl', h3.2.2 Q a' w' M D hq hp h1 h2 (closed_step hcl hj') hcl'⟩

theorem RO.done {fuel : Nat} {listed : Array Bool} (hr : Region.ready .any ops listed = []) (h : K ρ O) : RO P r base n ops S tail S2 tail2 fuel listed K ρ O := by
  intro Q a w M D hq hp ha hI _ _
  cases fuel with
  | zero => exact ⟨hr, ρ, O, D, ha, hI, hq _ _ h⟩
  | succ f => exact ⟨fun _ => ⟨ρ, O, D, ha, hI, hq _ _ h⟩, by rw [hr]; simp⟩

/-! ### the walk of a region that draws: the order is a list of operations' numbers, each with its make: 0: quiet; 1: loud; 2: loud, of both tails; 3: quiet, leaning on S2; 4: loud, of the second tail -/

def tailOf (l : List (Nat × Nat)) : List Nat := (l.filter (·.2 == 2)).map (·.1)
def tailOf2 (l : List (Nat × Nat)) : List Nat := (l.filter fun q => q.2 == 2 || q.2 == 4).map (·.1)

def walkB (ops : Array Oper) (tail tail2 : List Nat) : List (Nat × Nat) → Array Bool → Bool
  | [], listed => (Region.ready .any ops listed).isEmpty
  | (i, 0) :: l, listed => waitB ops tail i && Region.free .any ops listed i && (Region.ready .any ops listed).contains i && walkB ops tail tail2 l (listed.setIfInBounds i true)
  | (i, 3) :: l, listed => waitB ops tail2 i && Region.free .any ops listed i && (Region.ready .any ops listed).contains i && walkB ops tail tail2 l (listed.setIfInBounds i true)
  | (i, _) :: l, listed => (Region.ready .any ops listed == [i]) && walkB ops tail tail2 l (listed.setIfInBounds i true)

def drawB (ops : Array Oper) (l : List (Nat × Nat)) : Bool := Region.noSelect ops && noDeferB ops && l.length == ops.size && (l.all fun q => (q.2 == 2 || !(tailOf l).contains q.1) && (q.2 == 2 || q.2 == 4 || !(tailOf2 l).contains q.1)) && walkB ops (tailOf l) (tailOf2 l) l (Array.replicate ops.size false)

/-- What is left of the walk. -/
def DO (P : Program) (r : Option Nat) (base : World) (n : Nat) (ops : Array Oper) (S : List Item) (tail : List Nat) (S2 : List Item) (tail2 : List Nat) (l : List (Nat × Nat)) (K : Env → List Item → Prop) (ρ : Env) (O : List Item) : Prop :=
  Region.noSelect ops = true → noDeferB ops = true → (∀ q ∈ l, ((q.2 = 2 → q.1 ∈ tail) ∧ (q.2 ≠ 2 → q.1 ∉ tail)) ∧ ((q.2 = 2 ∨ q.2 = 4 → q.1 ∈ tail2) ∧ (q.2 ≠ 2 → q.2 ≠ 4 → q.1 ∉ tail2))) → ∀ listed, walkB ops tail tail2 l listed = true → RO P r base n ops S tail S2 tail2 l.length listed K ρ O

theorem DO.quiet {l : List (Nat × Nat)} {i : Nat} {d : Nat} {op : Op} {t : TypeId} {p : String} {af : Array Edge} {v : Value} (hi : ops[i]? = some ⟨some d, op, t, p, af, none⟩)
    (h : QT P base ⟨some d, op, t, p, af, none⟩ ρ S v) (hk : DO P r base n ops S tail S2 tail2 l K (upd ρ d v) O) (hn : Nat.blt d n = true := by rfl) :
    DO P r base n ops S tail S2 tail2 ((i, 0) :: l) K ρ O := fun hs hnd hl listed hw => by
  simp only [walkB, Bool.and_eq_true] at hw
  have h0 := hl (i, 0) (by simp)
  exact RO.quietZ (zt := tail) i hi (fun _ _ h => h.one) (h0.1.2 (by simp)) hw.1.1.1 hs hnd (h0.1.2 (by simp)) (h0.2.2 (by simp) (by simp)) hw.1.1.2 hw.1.2 (fun ds a ha => .inl ⟨rfl, fun w hw => by rw [ha.eval]; exact h w hw⟩) hn (hk hs hnd (fun q hq => hl q (List.mem_cons_of_mem _ hq)) _ hw.2)

theorem DO.quiet2 {l : List (Nat × Nat)} {i : Nat} {d : Nat} {op : Op} {t : TypeId} {p : String} {af : Array Edge} {v : Value} (hi : ops[i]? = some ⟨some d, op, t, p, af, none⟩)
    (h : QT P base ⟨some d, op, t, p, af, none⟩ ρ S2 v) (hk : DO P r base n ops S tail S2 tail2 l K (upd ρ d v) O) (hn : Nat.blt d n = true := by rfl) :
    DO P r base n ops S tail S2 tail2 ((i, 3) :: l) K ρ O := fun hs hnd hl listed hw => by
  simp only [walkB, Bool.and_eq_true] at hw
  have h0 := hl (i, 3) (by simp)
  exact RO.quietZ (zt := tail2) i hi (fun _ _ h => h.two) (h0.2.2 (by simp) (by simp)) hw.1.1.1 hs hnd (h0.1.2 (by simp)) (h0.2.2 (by simp) (by simp)) hw.1.1.2 hw.1.2 (fun ds a ha => .inl ⟨rfl, fun w hw => by rw [ha.eval]; exact h w hw⟩) hn (hk hs hnd (fun q hq => hl q (List.mem_cons_of_mem _ hq)) _ hw.2)

theorem DO.guarded {l : List (Nat × Nat)} {i : Nat} {d : Nat} {op : Op} {t : TypeId} {p : String} {af : Array Edge} {v : Value} {j tj : Nat} {want : Bool} (hi : ops[i]? = some ⟨some d, op, t, p, af, some (j, want)⟩)
    (hj : (ops[j]?).bind (·.dst) = some tj) (hw : ρ tj = .bool want)
    (h : QT P base ⟨some d, op, t, p, af, some (j, want)⟩ ρ S v) (hk : DO P r base n ops S tail S2 tail2 l K (upd ρ d v) O) (hn : Nat.blt d n = true := by rfl) :
    DO P r base n ops S tail S2 tail2 ((i, 0) :: l) K ρ O := fun hs hnd hl listed hb => by
  simp only [walkB, Bool.and_eq_true] at hb
  have h0 := hl (i, 0) (by simp)
  refine RO.quietZ (zt := tail) i hi (fun _ _ h => h.one) (h0.1.2 (by simp)) hb.1.1.1 hs hnd (h0.1.2 (by simp)) (h0.2.2 (by simp) (by simp)) hb.1.1.2 hb.1.2 (fun ds a ha => ?_) hn (hk hs hnd (fun q hq => hl q (List.mem_cons_of_mem _ hq)) _ hb.2)
  have hy := yielded_eq (ops := ops) ha hj
  rw [hw] at hy
  exact .inl ⟨by unfold Region.wanted; simp [hy, yOf], fun w hw => by rw [ha.eval]; exact h w hw⟩

theorem DO.passed {l : List (Nat × Nat)} {i : Nat} {d : Nat} {op : Op} {t : TypeId} {p : String} {af : Array Edge} {j tj : Nat} {want : Bool} (hi : ops[i]? = some ⟨some d, op, t, p, af, some (j, want)⟩)
    (hj : (ops[j]?).bind (·.dst) = some tj) (hw : (yOf (ρ tj) == some want) = false)
    (hk : DO P r base n ops S tail S2 tail2 l K (upd ρ d undef) O) (hn : Nat.blt d n = true := by rfl) :
    DO P r base n ops S tail S2 tail2 ((i, 0) :: l) K ρ O := fun hs hnd hl listed hb => by
  simp only [walkB, Bool.and_eq_true] at hb
  have h0 := hl (i, 0) (by simp)
  refine RO.quietZ (zt := tail) i hi (fun _ _ h => h.one) (h0.1.2 (by simp)) hb.1.1.1 hs hnd (h0.1.2 (by simp)) (h0.2.2 (by simp) (by simp)) hb.1.1.2 hb.1.2 (fun ds a ha => ?_) hn (hk hs hnd (fun q hq => hl q (List.mem_cons_of_mem _ hq)) _ hb.2)
  have hy := yielded_eq (ops := ops) ha hj
  exact .inr ⟨by unfold Region.wanted; simp only [hy]; exact hw, rfl⟩

theorem DO.loud2 {l : List (Nat × Nat)} {i : Nat} {o : Oper} (hi : ops[i]? = some o) (hg : o.guard = none)
    (h : LT P r base n o ρ O (fun ρ' O' => Sub S O' ∧ Sub S2 O' ∧ DO P r base n ops S tail S2 tail2 l K ρ' O')) : DO P r base n ops S tail S2 tail2 ((i, 1) :: l) K ρ O := fun hs hnd hl listed hb => by
  simp only [walkB, Bool.and_eq_true, beq_iff_eq] at hb
  refine RO.loud i hi hg hb.1 ?_
  intro a w M ds ha hI next Qx hnext
  exact h a w M ds ha hI next Qx fun a' ρ' O' w' h1 h2 h3 => hnext a' ρ' O' w' h1 h2 ⟨.inr h3.1, .inr h3.2.1, h3.2.2 hs hnd (fun q hq => hl q (List.mem_cons_of_mem _ hq)) _ hb.2⟩

theorem DO.loud {l : List (Nat × Nat)} {i : Nat} {o : Oper} (hi : ops[i]? = some o) (hg : o.guard = none)
    (h : LT P r base n o ρ O (fun ρ' O' => Sub S O' ∧ DO P r base n ops S tail [] tail2 l K ρ' O')) : DO P r base n ops S tail [] tail2 ((i, 1) :: l) K ρ O :=
  DO.loud2 hi hg fun a w M ds ha hI next Qx hnext => h a w M ds ha hI next Qx fun a' ρ' O' w' h1 h2 h3 => hnext a' ρ' O' w' h1 h2 ⟨h3.1, Sub.of (List.nil_sublist _), h3.2⟩

/-- of the second tail: the items S must stay -/
theorem DO.last2 {l : List (Nat × Nat)} {i : Nat} {o : Oper} (hi : ops[i]? = some o) (hg : o.guard = none)
    (h : LT P r base n o ρ O (fun ρ' O' => Sub S O' ∧ DO P r base n ops S tail S2 tail2 l K ρ' O')) : DO P r base n ops S tail S2 tail2 ((i, 4) :: l) K ρ O := fun hs hnd hl listed hb => by
  simp only [walkB, Bool.and_eq_true, beq_iff_eq] at hb
  refine RO.loud i hi hg hb.1 ?_
  intro a w M ds ha hI next Qx hnext
  exact h a w M ds ha hI next Qx fun a' ρ' O' w' h1 h2 h3 => hnext a' ρ' O' w' h1 h2 ⟨.inr h3.1, .inl ((hl (i, 4) (by simp)).2.1 (.inr rfl)), h3.2 hs hnd (fun q hq => hl q (List.mem_cons_of_mem _ hq)) _ hb.2⟩

/-- of the tail: nothing need stay -/
theorem DO.last {l : List (Nat × Nat)} {i : Nat} {o : Oper} (hi : ops[i]? = some o) (hg : o.guard = none)
    (h : LT P r base n o ρ O (fun ρ' O' => DO P r base n ops S tail S2 tail2 l K ρ' O')) : DO P r base n ops S tail S2 tail2 ((i, 2) :: l) K ρ O := fun hs hnd hl listed hb => by
  simp only [walkB, Bool.and_eq_true, beq_iff_eq] at hb
  refine RO.loud i hi hg hb.1 ?_
  intro a w M ds ha hI next Qx hnext
  exact h a w M ds ha hI next Qx fun a' ρ' O' w' h1 h2 h3 => hnext a' ρ' O' w' h1 h2 ⟨.inl ((hl (i, 2) (by simp)).1.1 rfl), .inl ((hl (i, 2) (by simp)).2.1 (.inl rfl)), h3 hs hnd (fun q hq => hl q (List.mem_cons_of_mem _ hq)) _ hb.2⟩

theorem DO.done (h : K ρ O) : DO P r base n ops S tail S2 tail2 [] K ρ O := fun _ _ _ listed hb => RO.done (by simpa [walkB] using hb) h

theorem T.draws2 (S S2 : List Item) (l : List (Nat × Nat)) {id : Nat} {ops : Array Oper} (hm : P.follows .mixedOrders = true) (hB : drawB ops l = true) (hS : Sub S O) (hS2 : Sub S2 O) (hp : ∀ c ρ O, ¬ Q (.panic c) ρ O)
    (h : DO P r base n ops S (tailOf l) S2 (tailOf2 l) l (fun ρ O => Q .normal ρ O) ρ O) : T P r base n (.region id ops true) Q ρ O := by
  simp only [drawB, Bool.and_eq_true, beq_iff_eq] at hB
  obtain ⟨⟨⟨⟨h1, hnd⟩, h2⟩, h4⟩, h5⟩ := hB
  have hl : ∀ q ∈ l, ((q.2 = 2 → q.1 ∈ tailOf l) ∧ (q.2 ≠ 2 → q.1 ∉ tailOf l)) ∧ ((q.2 = 2 ∨ q.2 = 4 → q.1 ∈ tailOf2 l) ∧ (q.2 ≠ 2 → q.2 ≠ 4 → q.1 ∉ tailOf2 l)) := fun q hq => by
    have := List.all_eq_true.1 h4 q hq
    simp only [Bool.and_eq_true, Bool.or_eq_true, beq_iff_eq, Bool.not_eq_true', List.contains_eq_mem, decide_eq_false_iff_not] at this
    refine ⟨⟨fun e => List.mem_map.2 ⟨q, List.mem_filter.2 ⟨hq, by simp [e]⟩, rfl⟩, fun e => this.1.resolve_left e⟩, fun e => List.mem_map.2 ⟨q, List.mem_filter.2 ⟨hq, by rcases e with e | e <;> simp [e]⟩, rfl⟩, fun e e2 => this.2.resolve_left (fun h => h.elim e e2)⟩
  have := h h1 hnd hl _ h5
  rw [h2] at this
  intro a w M D _ ha hi
  refine wpIn_region_any hm (wpAny_of_anyC _ _ _ _ (this Q a _ M D (fun _ _ h => h) hp ha (hi.drawn _) (closed_start _ _) ⟨(hi.drawn _).emp, .inr ((hi.drawn _).left.subp hS), .inr ((hi.drawn _).left.subp hS2)⟩))

theorem T.draws (S : List Item) (l : List (Nat × Nat)) {id : Nat} {ops : Array Oper} (hm : P.follows .mixedOrders = true) (hB : drawB ops l = true) (hS : Sub S O) (hp : ∀ c ρ O, ¬ Q (.panic c) ρ O)
    (h : DO P r base n ops S (tailOf l) [] (tailOf2 l) l (fun ρ O => Q .normal ρ O) ρ O) : T P r base n (.region id ops true) Q ρ O :=
  T.draws2 S [] l hm hB hS (Sub.of (List.nil_sublist _)) hp h

/-! ### a region in which several operations that make memory may come up at once: every order, as a tree -/

def AllI (p : Nat → Prop) : List Nat → Prop
  | [] => True
  | i :: is => p i ∧ AllI p is

theorem AllI.mem {p : Nat → Prop} : ∀ {is : List Nat}, AllI p is → ∀ i ∈ is, p i
  | i :: is, h, j, hj => by
    rcases List.mem_cons.1 hj with rfl | hj
    · exact h.1
    · exact AllI.mem h.2 j hj

/-- Whichever comes first. -/
theorem RO.fork {fuel : Nat} {listed : Array Bool} (is : List Nat) (hr : Region.ready .any ops listed = is) (h0 : is.isEmpty = false)
    (h : AllI (fun i => ∃ o, ops[i]? = some o ∧ o.guard = none ∧ LT P r base n o ρ O (fun ρ' O' => Sub S O' ∧ RO P r base n ops S [] [] [] fuel (listed.setIfInBounds i true) K ρ' O')) is) : RO P r base n ops S [] [] [] (fuel + 1) listed K ρ O := by
  intro Q a w M D hq hp ha hI hcl hS
  refine ⟨fun h1 => ?_, fun j hj => ?_⟩
  · rw [hr] at h1; subst h1; cases h0
  obtain ⟨o, hi, hg, hl⟩ := h.mem j (hr ▸ hj)
  unfold wpOpIn
  simp only [hi]
  rw [if_pos (by simp [Region.wanted, hg])]
  refine hl a w _ _ ha hI _ _ fun a' ρ' O' w' h1 h2 h3 => ?_
  have hcl' : classT base S [] [] [] (listed.setIfInBounds j true) w' := ⟨h2.emp, .inr (h2.left.subp h3.1), .inr h2.emp⟩
  exact ⟨hcl', h3.2 Q a' w' M D hq hp h1 h2 (closed_step hcl hj) hcl'⟩

theorem RO.quietT {fuel : Nat} {listed : Array Bool} (i : Nat) {d : Nat} {op : Op} {t : TypeId} {p : String} {af : Array Edge} {v : Value} (hi : ops[i]? = some ⟨some d, op, t, p, af, none⟩)
    (hb : (Region.noSelect ops && noDeferB ops && Region.free .any ops listed i && (Region.ready .any ops listed).contains i) = true)
    (h : QT P base ⟨some d, op, t, p, af, none⟩ ρ S v) (hk : RO P r base n ops S [] [] [] fuel (listed.setIfInBounds i true) K (upd ρ d v) O) (hn : Nat.blt d n = true := by rfl) :
    RO P r base n ops S [] [] [] (fuel + 1) listed K ρ O := by
  simp only [Bool.and_eq_true] at hb
  exact RO.quietZ (zt := []) i hi (fun _ _ h => h.one) (by simp) rfl hb.1.1.1 hb.1.1.2 (by simp) (by simp) hb.1.2 hb.2 (fun ds a ha => .inl ⟨rfl, fun w hw => by rw [ha.eval]; exact h w hw⟩) hn hk

/-- .. with a tail: operations behind which the items S need not stay -/
theorem RO.forkT {fuel : Nat} {listed : Array Bool} (is : List Nat) (hr : Region.ready .any ops listed = is) (h0 : is.isEmpty = false)
    (h : AllI (fun i => ∃ o, ops[i]? = some o ∧ o.guard = none ∧ LT P r base n o ρ O (fun ρ' O' => (i ∈ tail ∨ Sub S O') ∧ RO P r base n ops S tail [] [] fuel (listed.setIfInBounds i true) K ρ' O')) is) (hlen : is.all (fun i => Nat.blt i listed.size) = true) : RO P r base n ops S tail [] [] (fuel + 1) listed K ρ O := by
  intro Q a w M D hq hp ha hI hcl hS
  refine ⟨fun h1 => ?_, fun j hj => ?_⟩
  · rw [hr] at h1; subst h1; cases h0
  obtain ⟨o, hi, hg, hl⟩ := h.mem j (hr ▸ hj)
  have hlt : j < listed.size := by
    have := List.all_eq_true.1 hlen j (hr ▸ hj)
    rwa [Nat.blt_eq] at this
  unfold wpOpIn
  simp only [hi]
  rw [if_pos (by simp [Region.wanted, hg])]
  refine hl a w _ _ ha hI _ _ fun a' ρ' O' w' h1 h2 h3 => ?_
  have hcase : (tail.any fun b => (listed.setIfInBounds j true).getD b false) = true ∨ Inv base S w' := by
    rcases h3.1 with h4 | h4
    · refine .inl (List.any_eq_true.2 ⟨j, h4, ?_⟩)
      simp [hlt]
    · exact .inr (h2.left.subp h4)
  have hcl' : classT base S tail [] [] (listed.setIfInBounds j true) w' := ⟨h2.emp, hcase, .inr h2.emp⟩
  exact ⟨hcl', h3.2 Q a' w' M D hq hp h1 h2 (closed_step hcl hj) hcl'⟩

theorem RO.quietTT {fuel : Nat} {listed : Array Bool} (i : Nat) {d : Nat} {op : Op} {t : TypeId} {p : String} {af : Array Edge} {v : Value} (hi : ops[i]? = some ⟨some d, op, t, p, af, none⟩)
    (hb : (Region.noSelect ops && noDeferB ops && Region.free .any ops listed i && (Region.ready .any ops listed).contains i && waitB ops tail i && !tail.contains i) = true)
    (h : QT P base ⟨some d, op, t, p, af, none⟩ ρ S v) (hk : RO P r base n ops S tail [] [] fuel (listed.setIfInBounds i true) K (upd ρ d v) O) (hn : Nat.blt d n = true := by rfl) :
    RO P r base n ops S tail [] [] (fuel + 1) listed K ρ O := by
  simp only [Bool.and_eq_true, Bool.not_eq_true', List.contains_eq_mem, decide_eq_false_iff_not] at hb
  exact RO.quietZ (zt := tail) i hi (fun _ _ h => h.one) hb.2 hb.1.2 hb.1.1.1.1.1 hb.1.1.1.1.2 hb.2 (by simp) hb.1.1.1.2 (by simpa using hb.1.1.2) (fun ds a ha => .inl ⟨rfl, fun w hw => by rw [ha.eval]; exact h w hw⟩) hn hk

/-- a quiet one that leans on nothing -/
theorem RO.quietE {fuel : Nat} {listed : Array Bool} (i : Nat) {d : Nat} {op : Op} {t : TypeId} {p : String} {af : Array Edge} {v : Value} (hi : ops[i]? = some ⟨some d, op, t, p, af, none⟩)
    (hb : (Region.noSelect ops && noDeferB ops && Region.free .any ops listed i && (Region.ready .any ops listed).contains i && !tail.contains i) = true)
    (h : QT P base ⟨some d, op, t, p, af, none⟩ ρ [] v) (hk : RO P r base n ops S tail [] [] fuel (listed.setIfInBounds i true) K (upd ρ d v) O) (hn : Nat.blt d n = true := by rfl) :
    RO P r base n ops S tail [] [] (fuel + 1) listed K ρ O := by
  simp only [Bool.and_eq_true, Bool.not_eq_true', List.contains_eq_mem, decide_eq_false_iff_not] at hb
  exact RO.quietZ (zt := []) (Z := []) i hi (fun _ _ h => .inr h.emp) (by simp) rfl hb.1.1.1.1 hb.1.1.1.2 hb.2 (by simp) hb.1.1.2 (by simpa using hb.1.2) (fun ds a ha => .inl ⟨rfl, fun w hw => by rw [ha.eval]; exact h w hw⟩) hn hk

theorem T.treeT (S : List Item) (tail : List Nat) (m : Nat) {id : Nat} {ops : Array Oper} (hm : P.follows .mixedOrders = true) (hsz : ops.size = m) (hS : Sub S O) (hp : ∀ c ρ O, ¬ Q (.panic c) ρ O)
    (h : RO P r base n ops S tail [] [] m (Array.replicate m false) (fun ρ O => Q .normal ρ O) ρ O) : T P r base n (.region id ops true) Q ρ O := by
  subst hsz
  intro a w M D _ ha hi
  refine wpIn_region_any hm (wpAny_of_anyC _ _ _ _ (h Q a _ M D (fun _ _ h => h) hp ha (hi.drawn _) (closed_start _ _) ⟨(hi.drawn _).emp, .inr ((hi.drawn _).left.subp hS), .inr (hi.drawn _).emp⟩))

theorem T.tree (S : List Item) (m : Nat) {id : Nat} {ops : Array Oper} (hm : P.follows .mixedOrders = true) (hsz : ops.size = m) (hS : Sub S O) (hp : ∀ c ρ O, ¬ Q (.panic c) ρ O)
    (h : RO P r base n ops S [] [] [] m (Array.replicate m false) (fun ρ O => Q .normal ρ O) ρ O) : T P r base n (.region id ops true) Q ρ O := by
  subst hsz
  intro a w M D _ ha hi
  refine wpIn_region_any hm (wpAny_of_anyC _ _ _ _ (h Q a _ M D (fun _ _ h => h) hp ha (hi.drawn _) (closed_start _ _) ⟨(hi.drawn _).emp, .inr ((hi.drawn _).left.subp hS), .inr (hi.drawn _).emp⟩))

theorem RO.sub {O' : List Item} {fuel : Nat} {listed : Array Bool} (hs : Sub O' O) (h : RO P r base n ops S tail S2 tail2 fuel listed K ρ O') : RO P r base n ops S tail S2 tail2 fuel listed K ρ O :=
  fun Q a w M D hq hp ha hI hcl hS => h Q a w M D hq hp ha (hI.subp (by obtain ⟨l, h1, h2⟩ := hs; exact ⟨l ++ (mI D ++ M), h1.append_right _, h2.append (List.Sublist.refl _)⟩)) hcl hS

end
end Go.Lx

/- Contracts of functions of the program (Wit, BWit, BWitn, Sea, Trm, BTrc, BTrm): what each call answers and that it leaves memory as it was. Conditions: those each theorem names. -/
import Derived.Test.YtnamoapbienooaaBCan
import Derived.Test.YtnamoapbienooaaBMrk
import Derived.Test.YtnamoapbienooaaBChk
set_option linter.unusedSectionVars false
set_option linter.unusedSimpArgs false
set_option linter.unusedVariables false
set_option linter.unnecessarySimpa false
namespace Go.Lx
open Go.RowKit
set_option linter.unusedVariables false
structure Pf (b : Bu) (p : Nat → Nat) (w : List Nat) (s t : Nat) : Prop where
  z : p 0 = s
  e : p w.length = t
  st : ∀ i (h : i < w.length), ∃ e ∈ b.edges, e.fr = (p i : Int) ∧ e.to = (p (i + 1) : Int) ∧ e.pos = w[i]
theorem PathC.pf {b : Bu} {al : Nat → Bool} {s t : Nat} {w : List Nat} (h : PathC b al s w t) : ∃ p, Pf b p w s t := by
  induction h with
  | nil s => exact ⟨fun _ => s, rfl, rfl, fun i hi => by simp at hi⟩
  | @cons s u t w e he h1 h2 h3 h ih =>
    obtain ⟨p, hz, hp, hs⟩ := ih
    refine ⟨fun i => if i = 0 then s else p (i - 1), rfl, by simp [hp], fun i hi => ?_⟩
    cases i with
    | zero => exact ⟨e, he, h1, by simp [h2, hz], rfl⟩
    | succ i =>
      obtain ⟨e', h4, h5, h6, h7⟩ := hs i (by simpa using hi)
      exact ⟨e', h4, by simpa using h5, by simpa using h6, by simpa using h7⟩
theorem Pf.cat {b : Bu} {p q : Nat → Nat} {w v : List Nat} {s t u : Nat} (h : Pf b p w s t) (g : Pf b q v t u) : Pf b (fun i => if i < w.length then p i else q (i - w.length)) (w ++ v) s u := by
  have hj : ∀ i, i ≤ w.length → (if i < w.length then p i else q (i - w.length)) = p i := fun i hi => by
    split
    · rfl
    · have : i = w.length := by omega
      subst this; rw [Nat.sub_self, g.z, h.e]
  refine ⟨by show (if _ then _ else _) = _; rw [hj 0 (Nat.zero_le _)]; exact h.z, ?_, fun i hi => ?_⟩
  · show (if _ then _ else _) = _
    rw [if_neg (by simp), List.length_append, Nat.add_sub_cancel_left]; exact g.e
  · show ∃ e ∈ b.edges, e.fr = ((if i < w.length then p i else q (i - w.length) : Nat) : Int) ∧ e.to = ((if i + 1 < w.length then p (i + 1) else q (i + 1 - w.length) : Nat) : Int) ∧ _
    by_cases hlt : i < w.length
    · obtain ⟨e, h1, h2, h3, h4⟩ := h.st i hlt
      refine ⟨e, h1, by rw [if_pos hlt]; exact h2, by rw [hj (i + 1) hlt]; exact h3, by rw [List.getElem_append_left hlt]; exact h4⟩
    · obtain ⟨e, h1, h2, h3, h4⟩ := g.st (i - w.length) (by rw [List.length_append] at hi; omega)
      refine ⟨e, h1, by rw [if_neg hlt]; exact h2, by rw [if_neg (by omega), h3]; congr 2; omega, by rw [List.getElem_append_right (by omega)]; exact h4⟩
def LoopW (b : Bu) (first t k : Nat) (w : List Nat) : Prop := ∃ p, Pf b p w first t ∧ ∀ j, j < k → ∃ S, b.sets[j]? = some S ∧ ∃ i, i ≤ w.length ∧ (p i : Int) ∈ S
theorem LoopW.start {b : Bu} {first : Nat} : LoopW b first first 0 [] := ⟨fun _ => first, ⟨rfl, rfl, fun i hi => by simp at hi⟩, fun j hj => by omega⟩
theorem LoopW.cat {b : Bu} {al : Nat → Bool} {first t u k : Nat} {w v : List Nat} (h : LoopW b first t k w) (g : PathC b al t v u) : LoopW b first u k (w ++ v) := by
  obtain ⟨p, hp, hm⟩ := h
  obtain ⟨q, hq⟩ := g.pf
  refine ⟨_, hp.cat hq, fun j hj => ?_⟩
  obtain ⟨S, h1, i, h2, h3⟩ := hm j hj
  refine ⟨S, h1, i, by rw [List.length_append]; omega, ?_⟩
  by_cases hlt : i < w.length
  · show ((if i < w.length then p i else q (i - w.length) : Nat) : Int) ∈ S; rw [if_pos hlt]; exact h3
  · have : i = w.length := by omega
    subst this
    show ((if w.length < w.length then p w.length else q (w.length - w.length) : Nat) : Int) ∈ S
    rw [if_neg (by omega), Nat.sub_self, hq.z, ← hp.e]; exact h3
theorem LoopW.step {b : Bu} {al : Nat → Bool} {first t u k : Nat} {w v : List Nat} (h : LoopW b first t k w) (g : PathC b al t v u) {S : List Int} (hS : b.sets[k]? = some S) (hu : (u : Int) ∈ S) : LoopW b first u (k + 1) (w ++ v) := by
  obtain ⟨p, hp, hm⟩ := h.cat g
  refine ⟨p, hp, fun j hj => ?_⟩
  by_cases e : j = k
  · subst e; exact ⟨S, hS, (w ++ v).length, Nat.le_refl _, by rw [hp.e]; exact hu⟩
  · exact hm j (by omega)
theorem wit_acc {b : Bu} (hv : ValidB b) {al : Nat → Bool} {s first : Nat} {w0 w : List Nat} (hs : (s : Int) ∈ b.start) (h1 : PathC b al s w0 first) (h2 : LoopW b first first b.sets.length w) (h0 : 0 < w.length) : Acc b (La.at ⟨w0, w⟩) := by
  obtain ⟨p0, hp0⟩ := h1.pf
  obtain ⟨p, hp, hm⟩ := h2
  refine ⟨s, hs, fun i => if i < w0.length then p0 i else p ((i - w0.length) % w.length), ?_, fun i => ?_, fun S hS N => ?_⟩
  · show (if 0 < w0.length then _ else _) = _
    split
    · exact hp0.z
    · have : w0.length = 0 := by omega
      rw [Nat.zero_sub, Nat.zero_mod, hp.z, ← hp0.e, this]; exact hp0.z
  · have mt : ∀ e ∈ b.edges, mtch e e.pos := fun e he => ⟨Nat.and_self _, (hv.cu e he).2.2⟩
    show ∃ e ∈ b.edges, e.fr = ((if i < w0.length then p0 i else p ((i - w0.length) % w.length) : Nat) : Int) ∧ e.to = ((if i + 1 < w0.length then p0 (i + 1) else p ((i + 1 - w0.length) % w.length) : Nat) : Int) ∧ mtch e (La.at ⟨w0, w⟩ i)
    by_cases hlt : i < w0.length
    · obtain ⟨e, he, h3, h4, h5⟩ := hp0.st i hlt
      refine ⟨e, he, by rw [if_pos hlt]; exact h3, ?_, ?_⟩
      · rw [h4]; split
        · rfl
        · have : i + 1 = w0.length := by omega
          rw [this, Nat.sub_self, Nat.zero_mod, hp.z, hp0.e]
      · rw [La.at_pre (l := ⟨w0, w⟩) hlt]; show mtch e w0[i]; rw [← h5]; exact mt e he
    · have hml := Nat.mod_lt (i - w0.length) h0
      obtain ⟨e, he, h3, h4, h5⟩ := hp.st ((i - w0.length) % w.length) hml
      refine ⟨e, he, by rw [if_neg hlt]; exact h3, ?_, ?_⟩
      · rw [if_neg (by omega), h4, show i + 1 - w0.length = (i - w0.length) + 1 by omega]
        by_cases hl : (i - w0.length) % w.length + 1 < w.length
        · rw [Nat.add_mod (i - w0.length) 1, Nat.mod_eq_of_lt (show (i - w0.length) % w.length + 1 % w.length < w.length by
            by_cases h1w : w.length = 1
            · omega
            · rw [Nat.mod_eq_of_lt (show 1 < w.length by omega)]; exact hl)]
          by_cases h1w : w.length = 1
          · omega
          · rw [Nat.mod_eq_of_lt (show 1 < w.length by omega)]
        · have hle : (i - w0.length) % w.length + 1 = w.length := by omega
          have : (i - w0.length + 1) % w.length = 0 := by
            have h9 := Nat.mod_add_div (i - w0.length) w.length
            rw [show i - w0.length + 1 = w.length + w.length * ((i - w0.length) / w.length) by omega, Nat.add_mul_mod_self_left, Nat.mod_self]
          rw [this, hle, hp.e, hp.z]
      · rw [La.at_loop (l := ⟨w0, w⟩) h0 (by show w0.length ≤ i; omega)]; show mtch e (w[(i - w0.length) % w.length]); rw [← h5]; exact mt e he
  · obtain ⟨j, hj, rfl⟩ := List.mem_iff_getElem.1 hS
    obtain ⟨S', h3, i, h4, h5⟩ := hm j hj
    rw [List.getElem?_eq_getElem hj] at h3
    have := Option.some.inj h3
    subst this
    have hw : ((p (i % w.length) : Nat) : Int) ∈ b.sets[j] := by
      by_cases e : i = w.length
      · subst e; rw [Nat.mod_self, hp.z, ← hp.e]; exact h5
      · rw [Nat.mod_eq_of_lt (by omega)]; exact h5
    refine ⟨w0.length + (i + w.length * N), ?_, ?_⟩
    · have := Nat.le_mul_of_pos_left N h0; omega
    · show ((if _ then _ else _ : Nat) : Int) ∈ _
      rw [if_neg (by omega), Nat.add_sub_cancel_left, Nat.add_mul_mod_self_left]; exact hw
theorem rch_path {b : Bu} (hv : ValidB b) {al : Nat → Bool} {u v : Nat} (h : Rch (autE b) u v) : (∀ x, Rch (autE b) u x → Rch (autE b) x v → x < b.states.toNat → al x = true) → ∃ w, PathC b al u w v := by
  induction h with
  | refl v => intro _; exact ⟨[], .nil v⟩
  | @step u v w e h ih =>
    intro hal
    obtain ⟨z, hz⟩ := ih (fun x h1 h2 h3 => hal x (.step e h1) h2 h3)
    obtain ⟨ed, he, h1, h2⟩ := e
    have hvn : v < b.states.toNat := by have := (hv.ed ed he).2; omega
    exact ⟨_, .cons he h1 h2 (hal v (.one ⟨ed, he, h1, h2⟩) h hvn) hz⟩
theorem path_first {b : Bu} (hv : ValidB b) {ls co : List Bool} {s : Nat} (hl : liveB b s) (hls : ∀ v, v < b.states.toNat → (ls.getD v false = true ↔ liveB b v)) : ∃ w t, PathC b (fun v => ls.getD v false) s w t ∧ coreB b t := by
  obtain ⟨u, h1, h2⟩ := hl
  obtain ⟨w, hw⟩ := rch_path hv (al := fun v => ls.getD v false) h1 (fun x h3 h4 h5 => (hls x h5).2 ⟨u, h4, h2⟩)
  exact ⟨w, u, hw, h2⟩
structure SameP (b : Bu) (first : Nat) (same : List Bool) : Prop where
  h : ∀ v, v < b.states.toNat → (same.getD v false = true ↔ Rch (autE b) first v ∧ Rch (autE b) v first)
theorem SameP.path {b : Bu} (hv : ValidB b) {first u v : Nat} {same : List Bool} (h : SameP b first same) (hu : Rch (autE b) first u) (h1 : Rch (autE b) u v) (h2 : Rch (autE b) v first) : ∃ w, PathC b (fun v => same.getD v false) u w v :=
  rch_path hv h1 (fun x h3 h4 h5 => (h.h x h5).2 ⟨hu.trans h3, h4.trans h2⟩)
theorem SameP.mark {b : Bu} (hv : ValidB b) {first u k : Nat} {same : List Bool} (h : SameP b first same) (hc : coreB b first) (h1 : Rch (autE b) first u) (h2 : Rch (autE b) u first) (hk : k < b.sets.length) : ∃ w t, PathC b (fun v => same.getD v false) u w t ∧ ∃ S, b.sets[k]? = some S ∧ (t : Int) ∈ S := by
  obtain ⟨t, ⟨_, S, h3, h4⟩, h5, h6⟩ := hc.2 k hk
  obtain ⟨w, hw⟩ := h.path hv h1 (h2.trans h5) h6
  exact ⟨w, t, hw, S, h3, h4⟩
theorem SameP.back {b : Bu} (hv : ValidB b) {first u : Nat} {same : List Bool} (h : SameP b first same) (hc : coreB b first) (h1 : Rch (autE b) first u) (h2 : Rch (autE b) u first) {far : Bool} (hf : far = true → u = first) : ∃ w, PathC b (fun v => same.getD v false) u w first ∧ (far = true → w ≠ []) := by
  cases far with
  | false => obtain ⟨w, hw⟩ := h.path hv h1 h2 (.refl _); exact ⟨w, hw, fun q => by cases q⟩
  | true =>
    have e := hf rfl
    subst e
    obtain ⟨x, h3, h4⟩ := hc.1
    obtain ⟨w, hw⟩ := h.path hv (.one h3) h4 (.refl _)
    have h3' := h3
    obtain ⟨ed, he, h5, h6⟩ := h3
    have hxn : x < b.states.toNat := by have := (hv.ed ed he).2; omega
    exact ⟨_, .cons he h5 h6 ((h.h x hxn).2 ⟨.one h3', h4⟩) hw, fun _ => by simp⟩
theorem PathC.al_end {b : Bu} {al : Nat → Bool} {s t : Nat} {w : List Nat} (h : PathC b al s w t) (hs : al s = true) : al t = true := by
  induction h with
  | nil => exact hs
  | cons he h1 h2 h3 h ih => exact ih h3
theorem PathC.mem {b : Bu} {al : Nat → Bool} {s t : Nat} {w : List Nat} (h : PathC b al s w t) : ∀ x ∈ w, ∃ e ∈ b.edges, e.pos = x := by
  induction h with
  | nil => intro x hx; simp at hx
  | @cons s u t w e he h1 h2 h3 h ih =>
    intro x hx
    rcases List.mem_cons.1 hx with rfl | hx
    · exact ⟨e, he, rfl⟩
    · exact ih x hx
theorem Pf.mem {b : Bu} {p : Nat → Nat} {s t : Nat} {w : List Nat} (h : Pf b p w s t) : ∀ x ∈ w, ∃ e ∈ b.edges, e.pos = x := fun x hx => by
  obtain ⟨i, hi, rfl⟩ := List.mem_iff_getElem.1 hx
  obtain ⟨e, he, _, _, h2⟩ := h.st i hi
  exact ⟨e, he, h2⟩
theorem comp_le {n cnt : Nat} {E : Nat → Nat → Prop} {comp : Nat → Int} (hc : CompOk n E comp cnt) (hE : ∀ u v, E u v → u < n ∧ v < n) {u v : Nat} (h : Rch E u v) : comp v ≤ comp u := by
  induction h with
  | refl => exact Int.le_refl _
  | step e h ih => exact Int.le_trans ih (hc.clo _ _ (hE _ _ e).1 e)
theorem SameP.of {b : Bu} (hv : ValidB b) {nx : List (List Int)} {ms cn : List Nat} (hg : AutG b nx ms) {cnt first : Nat} (hc : CompN nx cn cnt) (hf : first < b.states.toNat) {same : List Bool} (hs : ∀ v, v < b.states.toNat → (same.getD v false = true ↔ fn cn v = fn cn first)) : SameP b first same := by
  have hE : ∀ u v, adjE nx u v → u < nx.length ∧ v < nx.length := fun u v he => adjE_lt (hg.ok hv) he
  have hnl : nx.length = b.states.toNat := hg.r.l
  refine ⟨fun v hv9 => ?_⟩
  rw [hs v hv9, ← hg.adj hv]
  constructor
  · intro e
    exact ⟨hc.cls first v (by omega) (by omega) (by show ((fn cn first : Nat) : Int) = fn cn v; omega), hc.cls v first (by omega) (by omega) (by show ((fn cn v : Nat) : Int) = fn cn first; omega)⟩
  · rintro ⟨h1, h2⟩
    have h3 := comp_le hc hE h1
    have h4 := comp_le hc hE h2
    have h5 : ((fn cn v : Nat) : Int) ≤ fn cn first := h3
    have h6 : ((fn cn first : Nat) : Int) ≤ fn cn v := h4
    omega
structure WitOf (b : Bu) (c : La) : Prop where
  can : IsCanon c
  acc : Acc b c.at
  pre : c.pre.length ≤ b.states.toNat
  loop : c.loop.length ≤ b.states.toNat * (b.sets.length + 1)
  mem : ∀ x, x ∈ c.pre ∨ x ∈ c.loop → ∃ e ∈ b.edges, e.pos = x
theorem WitOf.of {b : Bu} (hv : ValidB b) {al : Nat → Bool} {s first : Nat} {w0 w : List Nat} (hs : (s : Int) ∈ b.start) (h1 : PathC b al s w0 first) (h2 : LoopW b first first b.sets.length w) (h0 : 0 < w.length) (hl0 : w0.length ≤ b.states.toNat) (hl : w.length ≤ b.states.toNat * (b.sets.length + 1)) {c : La} (hc : CanonOf ⟨w0, w⟩ c) : WitOf b c := by
  have ha : c.at = La.at ⟨w0, w⟩ := funext hc.at_
  refine ⟨hc.can, by rw [ha]; exact wit_acc hv hs h1 h2 h0, Nat.le_trans hc.pre hl0, Nat.le_trans hc.loop hl, fun x hx => ?_⟩
  rcases hx with hx | hx
  · exact h1.mem x (hc.mp x hx)
  · obtain ⟨p, hp, _⟩ := h2; exact hp.mem x (hc.ml x hx)
def anyLive (b : Bu) : Prop := ∃ s : Nat, (s : Int) ∈ b.start ∧ liveB b s
open Classical in
noncomputable def witE (b : Bu) : Nat := if checkB b ≠ 0 then checkB b else if anyLive b then 0 else 9
theorem frm_of {b : Bu} (hv : ValidB b) {ls : List Bool} (hls : ∀ v, v < b.states.toNat → (ls.getD v false = true ↔ liveB b v)) :
    ∃ frm : List Nat, ints (b.start.filter fun x => !(!(ls.getD x.toNat false))) = nats frm ∧ (b.start.filter fun x => !(!(ls.getD x.toNat false))).length = frm.length ∧ (∀ s ∈ frm, s < b.states.toNat ∧ (s : Int) ∈ b.start ∧ liveB b s) ∧ (∀ s : Nat, (s : Int) ∈ b.start → liveB b s → s ∈ frm) ∧ frm.Nodup ∧ frm.length ≤ b.start.length := by
  have h0 : ∀ x ∈ b.start.filter (fun x => !(!(ls.getD x.toNat false))), 0 ≤ x ∧ x < b.states := fun x hx => hv.st x (List.mem_filter.1 hx).1
  have hlt : ∀ s : Nat, (s : Int) ∈ b.start → s < b.states.toNat := fun s hs => by have := hv.st _ hs; omega
  refine ⟨(b.start.filter fun x => !(!(ls.getD x.toNat false))).map Int.toNat, ?_, by rw [List.length_map], fun s hs => ?_, fun s hs hl => ?_, ?_, by rw [List.length_map]; exact List.length_filter_le _ _⟩
  · show List.map _ _ = List.map _ (List.map _ _)
    rw [List.map_map]
    apply List.map_congr_left
    intro x hx
    show Value.int _ x = Value.int _ ((x.toNat : Nat) : Int)
    rw [Int.toNat_of_nonneg (h0 x hx).1]
  · obtain ⟨x, hx, rfl⟩ := List.mem_map.1 hs
    obtain ⟨h1, h2⟩ := List.mem_filter.1 hx
    have h3 := hv.st x h1
    have e : ((x.toNat : Nat) : Int) = x := Int.toNat_of_nonneg h3.1
    have hn : x.toNat < b.states.toNat := by omega
    refine ⟨hn, by rw [e]; exact h1, (hls _ hn).1 (by simpa using h2)⟩
  · exact List.mem_map.2 ⟨(s : Int), List.mem_filter.2 ⟨hs, by have := (hls s (hlt s hs)).2 hl; simpa using this⟩, by simp⟩
  · have h1 : (b.start.filter fun x => !(!(ls.getD x.toNat false))).Pairwise (· < ·) := hv.sst.filter _
    rw [List.Nodup, List.pairwise_map]
    refine List.Pairwise.imp_of_mem (fun {x y} hx hy hlt => ?_) h1
    have := h0 x hx; have := h0 y hy
    omega
theorem sm_step {cn : List Nat} {sm : List Bool} {n k first : Nat} (hl : sm.length = n) (hk : k < n) (hc : cn.length = n) (hf : first < n) (h : ∀ v, v < n → (sm.getD v false = true ↔ v < k ∧ fn cn v = fn cn first)) : ∀ v, v < n → ((sm.set k (decide (((cn[k] : Nat) : Int) = ((cn[first] : Nat) : Int)))).getD v false = true ↔ v < k + 1 ∧ fn cn v = fn cn first) := fun v hv => by
  rw [getB_set (by omega)]
  by_cases e : v = k
  · subst e
    rw [if_pos rfl, decide_eq_true_iff, fn_get (by omega), fn_get (by omega)]
    omega
  · rw [if_neg e, h v hv]; omega
theorem bit_and {x k : Nat} : decide ((((x / 2 ^ k) &&& 1 : Nat) : Int) = ((1 : Nat) : Int)) = x.testBit k := by
  rw [Nat.testBit_eq_decide_div_mod_eq, Nat.and_one_is_mod]
  congr 1
  exact propext (by omega)
theorem bit_and9 {x k : Nat} : decide ((((x >>> k) &&& 1 : Nat) : Int) = 1) = x.testBit k := by
  rw [Nat.shiftRight_eq_div_pow]; exact bit_and
theorem mk_bit {b : Bu} {nx : List (List Int)} {ms : List Nat} (hg : AutG b nx ms) {k s : Nat} (hs : s < b.states.toNat) : (ms.getD s 0).testBit k = true ↔ ∃ S, b.sets[k]? = some S ∧ (s : Int) ∈ S := by
  rw [hg.m s hs, mkN_test]
end Go.Lx


namespace Go.Proofs.Ytnamoapbienooaa
open Go.Lx Go.RowKit
set_option linter.unusedVariables false
set_option linter.unusedSimpArgs false
set_option maxHeartbeats 1000000 in
set_option maxRecDepth 20000 in
theorem witLive (base : World) (b1 : Nat) (lb : Option Addr) (lc : Nat) (ls : List Bool) (s : Int) (h0 : 0 ≤ s) (hs : s.toNat < ls.length) :
    CallT Try.prog base 71 [.int .i64 s, .pointer (some ⟨b1, 0, none⟩)] [oI b1 39 [(.slice lb ls.length lc)], rowI lb lc 4 1 (bools ls)] (fun v O' => v = .bool (!ls.getD s.toNat false) ∧ O' = [oI b1 39 [(.slice lb ls.length lc)], rowI lb lc 4 1 (bools ls)]) := by
  refine CallT.enter Try.func71 rfl Try.ntmps71 rfl ?_
  refine T.seq (T.region ?_)
  refine TO.quiet (q_assign rfl) ?_
  refine TO.nil (T.seq (T.region ?_))
  refine TO.quiet (q_load_box 0 Try.underlying39 rfl rfl rfl rfl) (TO.quiet (QT.cast (q_move rfl) (v' := .int .i64 ((s.toNat : Nat) : Int)) (by show Value.int _ s = _; rw [Int.toNat_of_nonneg h0])) (TO.quiet (q_ix (i := s.toNat) Try.underlying39 inf4 rfl rfl (rowO (List.mem_of_getElem? (i := 1) rfl))) (TO.quiet (q_ld Try.underlying4 rfl rfl (rowO (List.mem_of_getElem? (i := 1) rfl)) bools_get) ?_)))
  refine TO.quiet (q_not rfl) (TO.quiet (q_assign rfl) ?_)
  refine TO.nil (T.ret ?_)
  refine Res.one (.bool (!ls[s.toNat])) Try.results71 rfl ?_
  exact ⟨by rw [gb hs], rfl⟩
set_option maxHeartbeats 1000000 in
set_option maxRecDepth 20000 in
theorem witCore (base : World) (b1 : Nat) (lb : Option Addr) (lc : Nat) (ls : List Bool) (s : Int) (h0 : 0 ≤ s) (hs : s.toNat < ls.length) :
    CallT Try.prog base 73 [.int .i64 s, .pointer (some ⟨b1, 0, none⟩)] [oI b1 39 [(.slice lb ls.length lc)], rowI lb lc 4 1 (bools ls)] (fun v O' => v = .bool (ls.getD s.toNat false) ∧ O' = [oI b1 39 [(.slice lb ls.length lc)], rowI lb lc 4 1 (bools ls)]) := by
  refine CallT.enter Try.func73 rfl Try.ntmps73 rfl ?_
  refine T.seq (T.region ?_)
  refine TO.quiet (q_assign rfl) ?_
  refine TO.nil (T.seq (T.region ?_))
  refine TO.quiet (q_load_box 0 Try.underlying39 rfl rfl rfl rfl) (TO.quiet (QT.cast (q_move rfl) (v' := .int .i64 ((s.toNat : Nat) : Int)) (by show Value.int _ s = _; rw [Int.toNat_of_nonneg h0])) (TO.quiet (q_ix (i := s.toNat) Try.underlying39 inf4 rfl rfl (rowO (List.mem_of_getElem? (i := 1) rfl))) (TO.quiet (q_ld Try.underlying4 rfl rfl (rowO (List.mem_of_getElem? (i := 1) rfl)) bools_get) ?_)))
  refine TO.quiet (q_assign rfl) ?_
  refine TO.nil (T.ret ?_)
  refine Res.one (.bool ls[s.toNat]) Try.results73 rfl ?_
  exact ⟨by rw [gb hs], rfl⟩
set_option maxHeartbeats 1000000 in
set_option maxRecDepth 20000 in
theorem witMark (base : World) (bg bk : Nat) (nb mb : Option Addr) (nl nc mc mq k : Nat) (full : Int) (ms : List Nat) (s : Int) (h0 : 0 ≤ s) (hs : s.toNat < ms.length) (hk : k ≤ 63) (hm : ∀ x ∈ ms, x < 256) :
    CallT Try.prog base 75 [.int .i64 s, .pointer (some ⟨bg, 0, none⟩), .pointer (some ⟨bk, 0, none⟩)] [oI bg 79 [(.slice nb nl nc), (.slice mb ms.length mc), (.int .u64 full)], oI bk 3 [(.int .i64 ((k : Nat) : Int))], rowI mb mq 52 1 (uns ms)] (fun v O' => v = .bool ((ms.getD s.toNat 0).testBit k) ∧ O' = [oI bg 79 [(.slice nb nl nc), (.slice mb ms.length mc), (.int .u64 full)], oI bk 3 [(.int .i64 ((k : Nat) : Int))], rowI mb mq 52 1 (uns ms)]) := by
  refine CallT.enter Try.func75 rfl Try.ntmps75 rfl ?_
  refine T.seq (T.region ?_)
  refine TO.quiet (q_assign rfl) ?_
  refine TO.nil (T.seq ?_)
  refine T.draws _ [(0, 0), (1, 0), (2, 0), (3, 0), (4, 0), (5, 0), (6, 0), (7, 0), (8, 0), (9, 0)] mixed (by kernel_rfl) (Sub.of (List.Sublist.refl _)) (fun _ _ _ h => h) ?_
  refine DO.quiet rfl (q_fieldAddr Try.underlying79 rfl inf77 rfl rfl) (DO.quiet rfl (q_load_box 0 Try.underlying77 rfl rfl rfl rfl) (DO.quiet rfl (QT.cast (q_move rfl) (v' := .int .i64 ((s.toNat : Nat) : Int)) (by show Value.int _ s = _; rw [Int.toNat_of_nonneg h0])) (DO.quiet rfl (q_ix (i := s.toNat) Try.underlying77 inf52 rfl rfl (rowO (List.mem_of_getElem? (i := 2) rfl))) ?_)))
  refine DO.quiet rfl (q_ld Try.underlying52 rfl rfl (rowO (List.mem_of_getElem? (i := 2) rfl)) uns_get) (DO.quiet rfl (q_load_box 1 Try.underlying3 rfl rfl rfl rfl) (DO.quiet rfl (q_shr (a := ms[s.toNat]) (b := k) .u64 rfl rfl (by show _ < 2 ^ 64; have := hm _ (List.getElem_mem hs); omega) (by show _ ≤ 64; omega)) (DO.quiet rfl (q_and (a := (ms[s.toNat] >>> k)) (b := 1) .u64 rfl rfl (by show _ < 2 ^ 64; have := hm _ (List.getElem_mem hs); have := Nat.shiftRight_le ms[s.toNat] k; omega) (by decide)) ?_)))
  refine DO.quiet rfl (q_eql rfl rfl) (DO.quiet rfl (q_assign rfl) ?_)
  refine DO.done ?_
  refine T.ret ?_
  refine Res.one (.bool (decide ((((ms[s.toNat] >>> k) &&& 1 : Nat) : Int) = 1))) Try.results75 rfl ?_
  exact ⟨congrArg Value.bool (by rw [show ms.getD s.toNat 0 = ms[s.toNat] by simp [hs]]; exact bit_and9), rfl⟩
set_option maxHeartbeats 1000000 in
set_option maxRecDepth 20000 in
theorem witEq (base : World) (bf : Nat) (first s : Int) :
    CallT Try.prog base 76 [.int .i64 s, .pointer (some ⟨bf, 0, none⟩)] [oI bf 3 [(.int .i64 first)]] (fun v O' => v = .bool (decide (s = first)) ∧ O' = [oI bf 3 [(.int .i64 first)]]) := by
  refine CallT.enter Try.func76 rfl Try.ntmps76 rfl ?_
  refine T.seq (T.region ?_)
  refine TO.quiet (q_assign rfl) ?_
  refine TO.nil (T.seq (T.region ?_))
  refine TO.quiet (q_move rfl) (TO.quiet (q_load_box 0 Try.underlying3 rfl rfl rfl rfl) (TO.quiet (q_eql rfl rfl) (TO.quiet (q_assign rfl) ?_)))
  refine TO.nil (T.ret ?_)
  refine Res.one (.bool (decide (s = first))) Try.results76 rfl ?_
  exact ⟨rfl, rfl⟩
end Go.Proofs.Ytnamoapbienooaa


namespace Go.Proofs.Ytnamoapbienooaa
open Go.Lx Go.RowKit
set_option linter.unusedVariables false
set_option linter.unusedSimpArgs false
set_option maxHeartbeats 4000000 in
set_option maxRecDepth 20000 in
theorem witnessF (w : World) (b : Bu) (sb eb tb : Option Addr) (sc ec tc : Nat) (vs : List Value) (h : BuAt w b sb eb tb vs) (hB : BuB b) :
    PureT Try.prog 27 [.agg (buCells b sb sc eb ec tb tc).toArray] w fun v N => ∃ (c : La) (pb lb : Option Addr) (pc lc e : Nat), v = .tuple #[.agg (laCells c pb pc lb lc).toArray, .int .i64 (e : Int)] ∧ N = [rowI pb pc 5 1 (byts c.pre), rowI lb lc 5 1 (byts c.loop)] ∧ e = witE b ∧ (e ≠ 0 → c = ⟨[], []⟩) ∧ (e = 0 → WitOf b c) := by
  refine CallT.enter Try.func27 rfl Try.ntmps27 rfl ?_
  have hst := hB.st; have hed := hB.ed; have hse := hB.se
  refine T.seq (T.region ?_)
  refine TO.loud rfl (l_box (v := (.agg (buCells b sb sc eb ec tb tc).toArray)) (cs := (buCells b sb sc eb ec tb tc)) rfl rfl (fun bx1 => ?_))
  refine TO.loud rfl (l_alloc inf29 rfl (fun bx2 => ?_))
  refine TO.quiet (q_assign rfl) ?_
  refine TO.nil (T.seq (T.seq (T.region ?_)))
  refine TO.quiet (q_load_boxAgg 1 Try.underlying26 rfl inf26 rfl rfl rfl) ?_
  have hk23 := fun (w1 : World) (hI : Inv w [oI bx2 29 [(.slice none 0 0), (.slice none 0 0)], oI bx1 26 (buCells b sb sc eb ec tb tc)] w1) => checkF w1 b sb eb tb sc ec tc vs (hI.bu h) hB
  refine TO.loud rfl (l_call ent21 (CallT.of_pure hk23) rfl ?_)
  clear hk23
  rintro vr O' ⟨N, rfl, rfl, rfl⟩
  refine TO.quiet (q_assign rfl) ?_
  refine TO.nil (T.seq (T.region ?_))
  refine TO.quiet (q_move rfl) (TO.quiet (q_neq rfl rfl) ?_)
  refine TO.nil ?_
  refine T.condP rfl (fun hc => ?_) (fun hc => ?_)
  · have hlt25 : checkB b ≠ 0 := by omega
    refine T.seq ?_
    refine T.nilRow 5 1 ?_
    refine T.nilRow 5 1 ?_
    refine T.region ?_
    refine TO.quiet (q_build plan29 inf29 rfl) (TO.quiet (q_move rfl) ?_)
    refine TO.loud rfl (l_store_box (v := (.agg #[(.slice none 0 0), (.slice none 0 0)])) (vs := [(.slice none 0 0), (.slice none 0 0)]) 2 inf29 rfl rfl rfl rfl rfl rfl (by simp [putL]) ?_)
    refine TO.quiet (q_assign rfl) ?_
    refine TO.nil (T.ret (Res.drop ?_))
    refine Res.cell1b (.int .i64 (checkB b : Int)) (i := 2) Try.results27 Try.underlying29 rfl inf29 rfl rfl rfl rfl ?_
    exact ⟨[rowI none 0 5 1 [], rowI none 0 5 1 []], (Sub.pick [0, 0] rfl), ⟨[], []⟩, none, none, 0, 0, checkB b, rfl, rfl, (by unfold witE; rw [if_pos (by omega)]), fun _ => rfl, fun h9 => (by omega)⟩
  have hge25 : ¬ checkB b ≠ 0 := by omega
  refine T.skip (T.seq ?_)
  have hv : ValidB b := checkB_zero.1 (by omega)
  have hv0 := hv.n0; have hv4 := hv.n4; have hm8 := hv.m8
  refine T.region ?_
  refine TO.quiet (q_load_boxAgg 1 Try.underlying26 rfl inf26 rfl rfl rfl) ?_
  have hk29 := fun (w1 : World) (hI : Inv w [oI bx2 29 [(.slice none 0 0), (.slice none 0 0)], oI bx1 26 (buCells b sb sc eb ec tb tc)] w1) => automatonF w1 b sb eb tb sc ec tc vs (hI.bu h) hB hv
  refine TO.loud rfl (l_call ent62 (CallT.of_pure hk29) rfl ?_)
  clear hk29
  rintro vr O' ⟨N, rfl, nb2, nc2, mb2, mc2, qs, ms, rfl, rfl, hg⟩
  refine TO.sub (O' := ([rowI nb2 b.states.toNat 22 1 (vals qs), rowI mb2 b.states.toNat 52 1 (uns ms), oI bx2 29 [(.slice none 0 0), (.slice none 0 0)], oI bx1 26 (buCells b sb sc eb ec tb tc)] ++ (itms 3 qs))) (Sub.cnt [] (by intro a; simp only [itms, oI, List.set_cons_zero, List.set_cons_succ, putL, List.cons_append, List.nil_append, List.append_nil, List.append_assoc, List.map_append, List.map_cons, List.map_nil, cnt_append, cnt_cons, cnt_nil, buCells, laCells] <;> omega)) ?_
  refine TO.loud rfl (l_alloc inf79 rfl (fun bx3 => ?_))
  refine TO.loud rfl (l_store_box (v := (.agg #[(.slice nb2 b.states.toNat nc2), (.slice mb2 b.states.toNat mc2), .int .u64 ((2 ^ b.sets.length - 1 : Nat) : Int)])) (vs := [(.slice nb2 b.states.toNat nc2), (.slice mb2 b.states.toNat mc2), .int .u64 ((2 ^ b.sets.length - 1 : Nat) : Int)]) 0 inf79 rfl rfl rfl rfl rfl rfl (by simp [putL]) ?_)
  refine TO.nil (T.seq (T.region ?_))
  refine TO.quiet (q_load_boxAgg 0 Try.underlying79 rfl inf79 rfl rfl rfl) ?_
  have hk32 := fun (w1 : World) (hI : Inv w ([oI bx3 79 [(.slice nb2 b.states.toNat nc2), (.slice mb2 b.states.toNat mc2), .int .u64 ((2 ^ b.sets.length - 1 : Nat) : Int)], rowI nb2 b.states.toNat 22 1 (vals qs), rowI mb2 b.states.toNat 52 1 (uns ms), oI bx2 29 [(.slice none 0 0), (.slice none 0 0)], oI bx1 26 (buCells b sb sc eb ec tb tc)] ++ (itms 3 qs)) w1) => (by
    have hL := liveF w1 nb2 mb2 nc2 mc2 (vals qs) (nums qs) ms b.sets.length (hI.slOf (List.mem_of_getElem? (i := 1) rfl)) (Inv.recs (E := 3) hI (fun q hq => List.mem_append_right _ (List.mem_map.2 ⟨q, hq, rfl⟩))) (by rw [hg.r.l]; omega) (fun r hr => by obtain ⟨i, hi, rfl⟩ := List.mem_iff_getElem.1 hr; have h9 := hg.r.b i; rw [getD_at hi] at h9; omega) (hg.ok hv) (hI.slOf (List.mem_of_getElem? (i := 2) rfl)) (by rw [hg.l, hg.r.l]) hg.lt hv.m8
    rw [hg.r.l, hg.l] at hL; exact hL)
  refine TO.loud rfl (l_call ent55 (CallT.of_pure hk32) rfl ?_)
  clear hk32
  rintro vr O' ⟨N, rfl, lb, lc, kb, kc, ls, co, rfl, rfl, hll, hlc, hlv⟩
  refine TO.quiet (q_move rfl) (TO.quiet (q_extract (vs := _) rfl rfl) (TO.quiet (q_extract (vs := _) rfl rfl) ?_))
  refine TO.loud rfl (l_alloc inf39 rfl (fun bx4 => ?_))
  refine TO.loud rfl (l_alloc inf39 rfl (fun bx5 => ?_))
  refine TO.loud rfl (l_store_box (v := (.slice lb b.states.toNat lc)) (vs := [(.slice lb b.states.toNat lc)]) 1 inf39 rfl rfl rfl rfl rfl rfl (by simp [putL]) ?_)
  refine TO.loud rfl (l_store_box (v := (.slice kb b.states.toNat kc)) (vs := [(.slice kb b.states.toNat kc)]) 0 inf39 rfl rfl rfl rfl rfl rfl (by simp [putL]) ?_)
  refine TO.nil (T.seq ?_)
  have hls : ∀ v, v < b.states.toNat → (ls.getD v false = true ↔ liveB b v) := fun v hv9 => (hlv v hv9).1.trans (hg.liv hv v)
  have hcs : ∀ v, v < b.states.toNat → (co.getD v false = true ↔ coreB b v) := fun v hv9 => (hlv v hv9).2.trans (hg.cor hv v)
  have hll9 : ls.length = b.states.toNat := hll
  obtain ⟨frm, hfr, hfl, hfm, hfa, hfd, hfs⟩ := frm_of hv hls
  refine T.region ?_
  refine TO.quiet (q_fieldAddr Try.underlying26 rfl inf22 rfl rfl) (TO.quiet (q_load_box 8 Try.underlying22 rfl rfl rfl rfl) ?_)
  have hk37 := fun (w1 : World) (hI : Inv w ([oI bx5 39 [(.slice kb b.states.toNat kc)], oI bx4 39 [(.slice lb b.states.toNat lc)], rowI lb lc 4 1 (bools ls), rowI kb kc 4 1 (bools co), oI bx3 79 [(.slice nb2 b.states.toNat nc2), (.slice mb2 b.states.toNat mc2), .int .u64 ((2 ^ b.sets.length - 1 : Nat) : Int)], rowI nb2 b.states.toNat 22 1 (vals qs), rowI mb2 b.states.toNat 52 1 (uns ms), oI bx2 29 [(.slice none 0 0), (.slice none 0 0)], oI bx1 26 (buCells b sb sc eb ec tb tc)] ++ (itms 3 qs)) w1) => cloneI w1 sb sc b.start (hI.bu h).st (by omega)
  refine TO.loud rfl (l_call ent70 (CallT.of_pure hk37) rfl ?_)
  clear hk37
  rintro vr O' ⟨N, rfl, cb1, cc1, rfl, rfl⟩
  refine TO.quiet (q_makeFunc) ?_
  have hk39 := (show CallT Try.prog w 69 [.slice cb1 b.start.length cc1, (.func (.func 71) #[] #[.pointer (some ⟨bx4, 0, none⟩)])] ([rowI cb1 cc1 3 1 (ints b.start)] ++ ([oI bx5 39 [(.slice kb b.states.toNat kc)], oI bx4 39 [(.slice lb b.states.toNat lc)], rowI lb lc 4 1 (bools ls), rowI kb kc 4 1 (bools co), oI bx3 79 [(.slice nb2 b.states.toNat nc2), (.slice mb2 b.states.toNat mc2), .int .u64 ((2 ^ b.sets.length - 1 : Nat) : Int)], rowI nb2 b.states.toNat 22 1 (vals qs), rowI mb2 b.states.toNat 52 1 (uns ms), oI bx2 29 [(.slice none 0 0), (.slice none 0 0)], oI bx1 26 (buCells b sb sc eb ec tb tc)] ++ (itms 3 qs))) (fun v O' => v = .slice cb1 frm.length cc1 ∧ O' = [rowI cb1 cc1 3 1 (nats frm)] ++ ([oI bx5 39 [(.slice kb b.states.toNat kc)], oI bx4 39 [(.slice lb b.states.toNat lc)], rowI lb lc 4 1 (bools ls), rowI kb kc 4 1 (bools co), oI bx3 79 [(.slice nb2 b.states.toNat nc2), (.slice mb2 b.states.toNat mc2), .int .u64 ((2 ^ b.sets.length - 1 : Nat) : Int)], rowI nb2 b.states.toNat 22 1 (vals qs), rowI mb2 b.states.toNat 52 1 (uns ms), oI bx2 29 [(.slice none 0 0), (.slice none 0 0)], oI bx1 26 (buCells b sb sc eb ec tb tc)] ++ (itms 3 qs))) from
    (deleteI w cb1 cc1 b.start (by omega) ([oI bx5 39 [(.slice kb b.states.toNat kc)], oI bx4 39 [(.slice lb b.states.toNat lc)], rowI lb lc 4 1 (bools ls), rowI kb kc 4 1 (bools co), oI bx3 79 [(.slice nb2 b.states.toNat nc2), (.slice mb2 b.states.toNat mc2), .int .u64 ((2 ^ b.sets.length - 1 : Nat) : Int)], rowI nb2 b.states.toNat 22 1 (vals qs), rowI mb2 b.states.toNat 52 1 (uns ms), oI bx2 29 [(.slice none 0 0), (.slice none 0 0)], oI bx1 26 (buCells b sb sc eb ec tb tc)] ++ (itms 3 qs)) (.func (.func 71) #[] #[.pointer (some ⟨bx4, 0, none⟩)]) (fun s => !ls.getD s.toNat false) (fun x hx => CallV.pick [1, 1] [oI bx5 39 [(.slice kb b.states.toNat kc)], oI bx4 39 [(.slice lb b.states.toNat lc)], rowI lb lc 4 1 (bools ls), rowI kb kc 4 1 (bools co), oI bx3 79 [(.slice nb2 b.states.toNat nc2), (.slice mb2 b.states.toNat mc2), .int .u64 ((2 ^ b.sets.length - 1 : Nat) : Int)], rowI nb2 b.states.toNat 22 1 (vals qs), rowI mb2 b.states.toNat 52 1 (uns ms), oI bx2 29 [(.slice none 0 0), (.slice none 0 0)], oI bx1 26 (buCells b sb sc eb ec tb tc)] (itms 3 qs) [oI bx4 39 [(.slice lb b.states.toNat lc)], rowI lb lc 4 1 (bools ls)] rfl (CallV.of_fn (first := []) (args := [.int .i64 x]) (caps := [.pointer (some ⟨bx4, 0, none⟩)]) ent71 (by have h9 := witLive w bx4 lb lc ls x (hv.st x hx).1 (by have := hv.st x hx; omega); rw [hll] at h9; exact h9)))).mono (fun v O' ⟨e1, e2⟩ => ⟨by rw [e1, hfl], by rw [e2, hfr]⟩))
  refine TO.loud rfl (l_call ent69 hk39 rfl ?_)
  clear hk39
  rintro vr O' ⟨rfl, rfl⟩
  refine TO.quiet (q_assign rfl) ?_
  refine TO.nil (T.seq (T.seq (T.region ?_)))
  refine TO.quiet (q_move rfl) (TO.quiet (q_len Try.underlying22 rfl) (TO.quiet (q_eql rfl rfl) ?_))
  refine TO.nil ?_
  refine T.condP rfl (fun hc => ?_) (fun hc => ?_)
  · have hlt42 : frm.length = 0 := by omega
    refine T.seq ?_
    refine T.nilRow 5 1 ?_
    refine T.nilRow 5 1 ?_
    refine T.region ?_
    refine TO.quiet (q_build plan29 inf29 rfl) ?_
    refine TO.loud rfl (l_store_box (v := (.agg #[(.slice none 0 0), (.slice none 0 0)])) (vs := [(.slice none 0 0), (.slice none 0 0)]) 10 inf29 rfl rfl rfl rfl rfl rfl (by simp [putL]) ?_)
    refine TO.quiet (q_assign rfl) ?_
    refine TO.nil (T.ret (Res.drop ?_))
    refine Res.cell1b (.int .i64 9) (i := 10) Try.results27 Try.underlying29 rfl inf29 rfl rfl rfl rfl ?_
    exact ⟨[rowI none 0 5 1 [], rowI none 0 5 1 []], (Sub.pick0 [0, 0] [rowI none 0 5 1 [], rowI none 0 5 1 [], rowI cb1 cc1 3 1 (nats frm), oI bx5 39 [(.slice kb b.states.toNat kc)], oI bx4 39 [(.slice lb b.states.toNat lc)], rowI lb lc 4 1 (bools ls), rowI kb kc 4 1 (bools co), oI bx3 79 [(.slice nb2 b.states.toNat nc2), (.slice mb2 b.states.toNat mc2), .int .u64 ((2 ^ b.sets.length - 1 : Nat) : Int)], rowI nb2 b.states.toNat 22 1 (vals qs), rowI mb2 b.states.toNat 52 1 (uns ms), oI bx2 29 [(.slice none 0 0), (.slice none 0 0)], oI bx1 26 (buCells b sb sc eb ec tb tc)] (itms 3 qs) rfl rfl), ⟨[], []⟩, none, none, 0, 0, 9, rfl, rfl, (by unfold witE; rw [if_neg (by omega), if_neg]; rintro ⟨s9, h8, h9⟩; have := hfa s9 h8 h9; rw [List.eq_nil_of_length_eq_zero (show frm.length = 0 by omega)] at this; cases this), fun _ => rfl, fun h9 => (by cases h9)⟩
  have hge42 : ¬ frm.length = 0 := by omega
  refine T.skip (T.seq ?_)
  have hex1 : ∃ s ∈ frm, ∃ w t, PathC b (fun v => ls.getD v false) s w t ∧ (fun s : Int => co.getD s.toNat false) (t : Int) = true ∧ (false = true → w ≠ []) := by
    obtain ⟨s, hs⟩ := List.exists_mem_of_length_pos (show 0 < frm.length by omega)
    obtain ⟨h1, _, h3⟩ := hfm s hs
    obtain ⟨w9, t, h4, h5⟩ := path_first (co := co) hv h3 hls
    have ht : t < b.states.toNat := by
      obtain ⟨u, ⟨e9, he9, h6, h7⟩, h8⟩ := h5.1
      have := (hv.ed e9 he9).1; omega
    exact ⟨s, hs, w9, t, h4, (hcs t ht).2 h5, fun q => by cases q⟩
  refine T.region ?_
  refine TO.quiet (q_load_boxAgg 9 Try.underlying26 rfl inf26 rfl rfl rfl) (TO.quiet (q_move rfl) (TO.quiet (q_load_box 2 Try.underlying39 rfl rfl rfl rfl) (TO.quiet (q_makeFunc) ?_)))
  have hk49 := by have h9 := lettersF w b sb eb tb sc ec tc vs h hB hv ([rowI cb1 cc1 3 1 (nats frm), oI bx5 39 [(.slice kb b.states.toNat kc)], oI bx4 39 [(.slice lb b.states.toNat lc)], rowI lb lc 4 1 (bools ls), rowI kb kc 4 1 (bools co), oI bx3 79 [(.slice nb2 b.states.toNat nc2), (.slice mb2 b.states.toNat mc2), .int .u64 ((2 ^ b.sets.length - 1 : Nat) : Int)], rowI nb2 b.states.toNat 22 1 (vals qs), rowI mb2 b.states.toNat 52 1 (uns ms), oI bx2 29 [(.slice none 0 0), (.slice none 0 0)], oI bx1 26 (buCells b sb sc eb ec tb tc)] ++ (itms 3 qs)) cb1 cc1 frm (fun w hI => hI.slOf (List.mem_of_getElem? (i := 0) rfl)) (by omega) (fun s hs => (hfm s hs).1) hfd lb lc ls (fun w hI => hI.slOf (List.mem_of_getElem? (i := 3) rfl)) hll false (.func (.func 73) #[] #[.pointer (some ⟨bx5, 0, none⟩)]) (fun s => co.getD s.toNat false) (fun x hx => CallV.pick [1, 3] [rowI cb1 cc1 3 1 (nats frm), oI bx5 39 [(.slice kb b.states.toNat kc)], oI bx4 39 [(.slice lb b.states.toNat lc)], rowI lb lc 4 1 (bools ls), rowI kb kc 4 1 (bools co), oI bx3 79 [(.slice nb2 b.states.toNat nc2), (.slice mb2 b.states.toNat mc2), .int .u64 ((2 ^ b.sets.length - 1 : Nat) : Int)], rowI nb2 b.states.toNat 22 1 (vals qs), rowI mb2 b.states.toNat 52 1 (uns ms), oI bx2 29 [(.slice none 0 0), (.slice none 0 0)], oI bx1 26 (buCells b sb sc eb ec tb tc)] (itms 3 qs) [oI bx5 39 [(.slice kb b.states.toNat kc)], rowI kb kc 4 1 (bools co)] rfl (CallV.of_fn (first := []) (args := [.int .i64 (x : Int)]) (caps := [.pointer (some ⟨bx5, 0, none⟩)]) ent73 (by have h9 := witCore w bx5 kb kc co (x : Int) (by omega) (by rw [hlc]; omega); rw [hlc] at h9; exact h9))) hex1; rw [hll] at h9; exact h9
  refine TO.loud rfl (l_call ent72 hk49 rfl ?_)
  clear hk49
  rintro vr O' ⟨w0, first, wb, wc, rfl, rfl, ⟨s0, hs0, hp0⟩, hfn, hfc, -, hw0⟩
  refine TO.quiet (q_move rfl) (TO.quiet (q_extract (vs := _) rfl rfl) (TO.quiet (q_extract (vs := _) rfl rfl) ?_))
  refine TO.loud rfl (l_alloc inf3 rfl (fun bx6 => ?_))
  refine TO.quiet (q_assign rfl) ?_
  refine TO.loud rfl (l_store_box (v := .int .i64 ((first : Nat) : Int)) (vs := [(.int .i64 ((first : Nat) : Int))]) 0 inf3 rfl rfl rfl rfl rfl rfl (by simp [putL]) ?_)
  refine TO.nil (T.seq ?_)
  have hco : coreB b first := (hcs first hfn).1 hfc
  have hms : ∀ x ∈ ms, x < 256 := fun x hx => lt64 (hg.lt x hx) hm8
  refine T.region ?_
  refine TO.quiet (q_load_boxAgg 7 Try.underlying79 rfl inf79 rfl rfl rfl) ?_
  have hk54 := fun (w1 : World) (hI : Inv w ([oI bx6 3 [(.int .i64 ((first : Nat) : Int))], rowI wb wc 5 1 (byts w0), rowI cb1 cc1 3 1 (nats frm), oI bx5 39 [(.slice kb b.states.toNat kc)], oI bx4 39 [(.slice lb b.states.toNat lc)], rowI lb lc 4 1 (bools ls), rowI kb kc 4 1 (bools co), oI bx3 79 [(.slice nb2 b.states.toNat nc2), (.slice mb2 b.states.toNat mc2), .int .u64 ((2 ^ b.sets.length - 1 : Nat) : Int)], rowI nb2 b.states.toNat 22 1 (vals qs), rowI mb2 b.states.toNat 52 1 (uns ms), oI bx2 29 [(.slice none 0 0), (.slice none 0 0)], oI bx1 26 (buCells b sb sc eb ec tb tc)] ++ (itms 3 qs)) w1) => (by
    have hL := componentsF w1 nb2 mb2 nc2 b.states.toNat mc2 ((2 ^ b.sets.length - 1 : Nat) : Int) (vals qs) (nums qs) (hI.slOf (List.mem_of_getElem? (i := 8) rfl)) (Inv.recs (E := 3) hI (fun q hq => List.mem_append_right _ (List.mem_map.2 ⟨q, hq, rfl⟩))) (by rw [hg.r.l]; omega) (fun r hr => by obtain ⟨i, hi, rfl⟩ := List.mem_iff_getElem.1 hr; have h9 := hg.r.b i; rw [getD_at hi] at h9; omega) (hg.ok hv)
    rw [hg.r.l] at hL; exact hL)
  refine TO.loud rfl (l_call ent74 (CallT.of_pure hk54) rfl ?_)
  clear hk54
  rintro vr O' ⟨N, rfl, cb, cc, cn, cnt, rfl, rfl, hcl, hcn, hcnt⟩
  refine TO.quiet (q_move rfl) (TO.quiet (q_extract (vs := _) rfl rfl) (TO.quiet (q_extract (vs := _) rfl rfl) (TO.quiet (q_assign rfl) ?_)))
  refine TO.quiet (q_assign rfl) ?_
  refine TO.nil (T.seq ?_)
  have hcl2 : cn.length = b.states.toNat := hcl
  refine T.region ?_
  refine TO.quiet (q_fieldAddr Try.underlying26 rfl inf3 rfl rfl) (TO.quiet (QT.cast (q_load_box 12 Try.underlying3 rfl rfl rfl rfl) (v' := .int .i64 ((b.states.toNat : Nat) : Int)) (by show Value.int _ b.states = _; rw [Int.toNat_of_nonneg hv0])) ?_)
  refine TO.loud rfl (l_makeSlice (m := b.states.toNat) Try.underlying39 inf4 rfl rfl (by omega) (by omega) (fun bx7 => ?_))
  refine TO.quiet (q_assign rfl) ?_
  refine TO.nil (T.seq (T.seq (T.region ?_)))
  refine TO.quiet (q_move rfl) (TO.quiet (q_len Try.underlying39 rfl) (TO.quiet (q_move rfl) ?_))
  refine TO.nil (T.block ?_)
  refine T.sub (O' := [rowI (some ⟨bx7, 0, none⟩) b.states.toNat 4 1 (List.replicate b.states.toNat (.bool false)), oI bx6 3 [(.int .i64 ((first : Nat) : Int))], oI bx3 79 [(.slice nb2 b.states.toNat nc2), (.slice mb2 b.states.toNat mc2), .int .u64 ((2 ^ b.sets.length - 1 : Nat) : Int)], oI bx2 29 [(.slice none 0 0), (.slice none 0 0)], oI bx1 26 (buCells b sb sc eb ec tb tc), rowI mb2 b.states.toNat 52 1 (uns ms), rowI wb wc 5 1 (byts w0), rowI cb cc 3 1 (nats cn)]) (Sub.pick0 [0, 1, 7, 9, 9, 8, 1, 0] [rowI (some ⟨bx7, 0, none⟩) b.states.toNat 4 1 (List.replicate b.states.toNat (.bool false)), rowI cb cc 3 1 (nats cn), oI bx6 3 [(.int .i64 ((first : Nat) : Int))], rowI wb wc 5 1 (byts w0), rowI cb1 cc1 3 1 (nats frm), oI bx5 39 [(.slice kb b.states.toNat kc)], oI bx4 39 [(.slice lb b.states.toNat lc)], rowI lb lc 4 1 (bools ls), rowI kb kc 4 1 (bools co), oI bx3 79 [(.slice nb2 b.states.toNat nc2), (.slice mb2 b.states.toNat mc2), .int .u64 ((2 ^ b.sets.length - 1 : Nat) : Int)], rowI nb2 b.states.toNat 22 1 (vals qs), rowI mb2 b.states.toNat 52 1 (uns ms), oI bx2 29 [(.slice none 0 0), (.slice none 0 0)], oI bx1 26 (buCells b sb sc eb ec tb tc)] (itms 3 qs) rfl rfl) ?_
  refine T.loop (fun (k : Nat) ρ O => ∃ (sm : List Bool), O = [rowI (some ⟨bx7, 0, none⟩) b.states.toNat 4 1 (bools sm), oI bx6 3 [(.int .i64 ((first : Nat) : Int))], oI bx3 79 [(.slice nb2 b.states.toNat nc2), (.slice mb2 b.states.toNat mc2), .int .u64 ((2 ^ b.sets.length - 1 : Nat) : Int)], oI bx2 29 [(.slice none 0 0), (.slice none 0 0)], oI bx1 26 (buCells b sb sc eb ec tb tc), rowI mb2 b.states.toNat 52 1 (uns ms), rowI wb wc 5 1 (byts w0), rowI cb cc 3 1 (nats cn)] ∧ k ≤ b.states.toNat ∧ sm.length = b.states.toNat ∧ (∀ v, v < b.states.toNat → (sm.getD v false = true ↔ v < k ∧ fn cn v = fn cn first)) ∧ Heads [(0, (.agg (buCells b sb sc eb ec tb tc).toArray)), (1, (.pointer (some ⟨bx1, 0, none⟩))), (2, (.pointer (some ⟨bx2, 0, none⟩))), (3, .int .i64 0), (4, .int .i64 (checkB b : Int)), (5, (.pointer (some ⟨bx3, 0, none⟩))), (6, (.pointer (some ⟨bx4, 0, none⟩))), (7, (.pointer (some ⟨bx5, 0, none⟩))), (8, (.slice cb1 frm.length cc1)), (9, (.slice wb w0.length wc)), (10, (.pointer (some ⟨bx6, 0, none⟩))), (11, (.slice cb b.states.toNat cc)), (13, (.slice (some ⟨bx7, 0, none⟩) b.states.toNat b.states.toNat)), (61, .int .i64 (b.states.toNat : Int)), (62, .int .i64 (k : Int))] ρ) (fun k => b.states.toNat - k) 0 ?_ ?_
  · exact ⟨List.replicate b.states.toNat false, by simp only [List.map_replicate], Nat.zero_le _, by simp, (fun v hv9 => by rw [gb (by simpa using hv9)]; simp), ⟨rfl, rfl, rfl, rfl, rfl, rfl, rfl, rfl, rfl, rfl, rfl, rfl, rfl, rfl, rfl, trivial⟩⟩
  rintro k ρ O ⟨sm, rfl, hk, hsl, hsm, hH⟩
  obtain ⟨ρ0, rfl⟩ := hH.elim
  clear hH
  refine T.seq (T.region ?_)
  refine TO.quiet (q_lss rfl rfl) ?_
  refine TO.nil (T.seq ?_)
  refine T.condP rfl (fun hc => ?_) (fun hc => ?_)
  · have hlt63 : k < b.states.toNat := by omega
    refine T.skip (T.seq (T.block (T.seq (T.region ?_))))
    refine TO.quiet (q_move rfl) (TO.quiet (q_assign rfl) ?_)
    refine TO.nil ?_
    refine T.draws _ [(0, 0), (1, 0), (2, 0), (3, 0), (4, 0), (5, 0), (6, 0), (7, 0), (8, 0), (9, 0), (10, 0), (11, 0), (12, 2)] mixed (by kernel_rfl) (Sub.of (List.Sublist.refl _)) (fun _ _ _ h => h) ?_
    refine DO.quiet rfl (q_move rfl) (DO.quiet rfl (q_move rfl) (DO.quiet rfl (q_move rfl) (DO.quiet rfl (q_move rfl) ?_)))
    refine DO.quiet rfl (q_ix (i := k) Try.underlying22 inf3 rfl rfl (rowO (List.mem_of_getElem? (i := 7) rfl))) (DO.quiet rfl (q_ld Try.underlying3 rfl rfl (rowO (List.mem_of_getElem? (i := 7) rfl)) nats_get) (DO.quiet rfl (q_move rfl) (DO.quiet rfl (q_load_box 1 Try.underlying3 rfl rfl rfl rfl) ?_)))
    refine DO.quiet rfl (q_ix (i := first) Try.underlying22 inf3 rfl rfl (rowO (List.mem_of_getElem? (i := 7) rfl))) (DO.quiet rfl (q_ld Try.underlying3 rfl rfl (rowO (List.mem_of_getElem? (i := 7) rfl)) nats_get) (DO.quiet rfl (q_eql rfl rfl) (DO.quiet rfl (q_ix (i := k) Try.underlying39 inf4 rfl rfl (rowO (List.mem_of_getElem? (i := 0) rfl))) ?_)))
    refine DO.last rfl rfl (l_st (j := k) (v := .bool (decide (((cn[k] : Nat) : Int) = ((cn[first] : Nat) : Int)))) (vs := [(.bool (decide (((cn[k] : Nat) : Int) = ((cn[first] : Nat) : Int))))]) (cs := bools sm) 0 inf4 rfl rfl rfl rfl rfl (by simp) rfl (by first | (simp; omega) | (simp_all; omega)) ?_)
    refine DO.sub (O' := [rowI (some ⟨bx7, 0, none⟩) b.states.toNat 4 1 (bools (sm.set k (decide (((cn[k] : Nat) : Int) = ((cn[first] : Nat) : Int))))), oI bx6 3 [(.int .i64 ((first : Nat) : Int))], oI bx3 79 [(.slice nb2 b.states.toNat nc2), (.slice mb2 b.states.toNat mc2), .int .u64 ((2 ^ b.sets.length - 1 : Nat) : Int)], oI bx2 29 [(.slice none 0 0), (.slice none 0 0)], oI bx1 26 (buCells b sb sc eb ec tb tc), rowI mb2 b.states.toNat 52 1 (uns ms), rowI wb wc 5 1 (byts w0), rowI cb cc 3 1 (nats cn)]) (by rw [show putL (bools sm) k [(.bool (decide (((cn[k] : Nat) : Int) = ((cn[first] : Nat) : Int))))] = bools (sm.set k (decide (((cn[k] : Nat) : Int) = ((cn[first] : Nat) : Int)))) from (by simp [putL])]; exact Sub.of (List.Sublist.refl _)) ?_
    refine DO.done ?_
    refine T.region ?_
    refine TO.quiet (q_addN (a := k) (b := 1) rfl rfl (by omega)) (TO.quiet (q_move rfl) ?_)
    refine TO.nil ?_
    exact ⟨k + 1, by omega, sm.set k (decide (((cn[k] : Nat) : Int) = ((cn[first] : Nat) : Int))), rfl, by omega, by simp [hsl], sm_step hsl hlt63 hcl2 hfn hsm, ⟨rfl, rfl, rfl, rfl, rfl, rfl, rfl, rfl, rfl, rfl, rfl, rfl, rfl, rfl, rfl, trivial⟩⟩
  have hge63 : ¬ k < b.states.toNat := by omega
  refine T.exit ?_
  refine T.seq (T.region ?_)
  refine TO.quiet (q_assign rfl) ?_
  refine TO.nil (T.seq (T.region ?_))
  refine TO.quiet (q_load_box 1 Try.underlying3 rfl rfl rfl rfl) (TO.quiet (q_assign rfl) ?_)
  refine TO.nil (T.seq (T.seq (T.region ?_)))
  refine TO.quiet (q_fieldAddr Try.underlying26 rfl inf24 rfl rfl) (TO.quiet (q_load_box 4 Try.underlying24 rfl rfl rfl rfl) (TO.quiet (q_len Try.underlying24 rfl) (TO.quiet (q_move rfl) ?_)))
  refine TO.nil (T.block ?_)
  refine T.nilRow 5 1 ?_
  have hsp : SameP b first sm := SameP.of hv hg hcn hfn (fun v hv9 => by rw [hsm v hv9]; exact ⟨fun q => q.2, fun q => ⟨by omega, q⟩⟩)
  refine T.loopS (fun (j : Nat) ρ O => ∃ (lw : List Nat) (cu : Nat) (lb3 : Option Addr) (lc3 : Nat), O = [rowI lb3 lc3 5 1 (byts lw), rowI (some ⟨bx7, 0, none⟩) b.states.toNat 4 1 (bools sm), oI bx6 3 [(.int .i64 ((first : Nat) : Int))], oI bx3 79 [(.slice nb2 b.states.toNat nc2), (.slice mb2 b.states.toNat mc2), .int .u64 ((2 ^ b.sets.length - 1 : Nat) : Int)], oI bx2 29 [(.slice none 0 0), (.slice none 0 0)], oI bx1 26 (buCells b sb sc eb ec tb tc), rowI mb2 b.states.toNat 52 1 (uns ms), rowI wb wc 5 1 (byts w0), rowI cb cc 3 1 (nats cn)] ∧ j ≤ b.sets.length ∧ LoopW b first cu j lw ∧ Rch (autE b) first cu ∧ Rch (autE b) cu first ∧ cu < b.states.toNat ∧ lw.length ≤ b.states.toNat * j ∧ Heads [(0, (.agg (buCells b sb sc eb ec tb tc).toArray)), (1, (.pointer (some ⟨bx1, 0, none⟩))), (2, (.pointer (some ⟨bx2, 0, none⟩))), (3, .int .i64 0), (4, .int .i64 (checkB b : Int)), (5, (.pointer (some ⟨bx3, 0, none⟩))), (6, (.pointer (some ⟨bx4, 0, none⟩))), (7, (.pointer (some ⟨bx5, 0, none⟩))), (8, (.slice cb1 frm.length cc1)), (9, (.slice wb w0.length wc)), (10, (.pointer (some ⟨bx6, 0, none⟩))), (11, (.slice cb b.states.toNat cc)), (13, (.slice (some ⟨bx7, 0, none⟩) b.states.toNat b.states.toNat)), (15, (.slice lb3 lw.length lc3)), (16, .int .i64 (cu : Int)), (81, .int .i64 (b.sets.length : Int)), (82, .int .i64 (j : Int))] ρ) (fun j => b.sets.length - j) 0 ?_ ?_
  · exact ⟨[], first, none, 0, rfl, Nat.zero_le _, LoopW.start, .refl _, .refl _, hfn, Nat.zero_le _, ⟨rfl, rfl, rfl, rfl, rfl, rfl, rfl, rfl, rfl, rfl, rfl, rfl, rfl, rfl, rfl, rfl, rfl, trivial⟩⟩
  rintro j ρ O ⟨lw, cu, lb3, lc3, rfl, hj, hlw, hrf, hrb, hcu, hll3, hH⟩
  obtain ⟨ρ0, rfl⟩ := hH.elim
  clear hH
  have hbj : b.states.toNat * j ≤ 4096 * 8 := Nat.mul_le_mul (by omega) (by omega)
  refine T.seq (T.region ?_)
  refine TO.quiet (q_lss rfl rfl) ?_
  refine TO.nil (T.seq ?_)
  refine T.condP rfl (fun hc => ?_) (fun hc => ?_)
  · have hlt83 : j < b.sets.length := by omega
    refine T.skip (T.seq (T.block (T.seq (T.region ?_))))
    refine TO.quiet (q_move rfl) ?_
    refine TO.loud rfl (l_alloc inf3 rfl (fun bx8 => ?_))
    refine TO.loud rfl (l_store_box (v := .int .i64 (j : Int)) (vs := [(.int .i64 (j : Int))]) 0 inf3 rfl rfl rfl rfl rfl rfl (by simp [putL]) ?_)
    refine TO.nil (T.seq ?_)
    have hex2 : ∃ s ∈ [cu], ∃ w t, PathC b (fun v => sm.getD v false) s w t ∧ (fun s : Int => (ms.getD s.toNat 0).testBit j) (t : Int) = true ∧ (false = true → w ≠ []) := by
      obtain ⟨w9, t, h4, S9, h5, h6⟩ := hsp.mark hv hco hrf hrb hlt83
      have ht : t < b.states.toNat := by have := hv.se S9 (List.mem_of_getElem? h5) _ h6; omega
      exact ⟨cu, by simp, w9, t, h4, (mk_bit hg ht).2 ⟨S9, h5, h6⟩, fun q => by cases q⟩
    refine T.region ?_
    refine TO.quiet (q_load_boxAgg 6 Try.underlying26 rfl inf26 rfl rfl rfl) (TO.quiet (q_move rfl) ?_)
    refine TO.loud rfl (l_build1 (v := .int .i64 (cu : Int)) Try.underlying22 inf3 rfl rfl rfl (fun bx9 => ?_))
    refine TO.quiet (q_move rfl) (TO.quiet (q_makeFunc) ?_)
    have hk91 := by have h9 := lettersF w b sb eb tb sc ec tc vs h hB hv ([rowI (some ⟨bx9, 0, none⟩) 1 3 1 [.int .i64 (cu : Int)], oI bx8 3 [(.int .i64 (j : Int))], rowI lb3 lc3 5 1 (byts lw), rowI (some ⟨bx7, 0, none⟩) b.states.toNat 4 1 (bools sm), oI bx6 3 [(.int .i64 ((first : Nat) : Int))], oI bx3 79 [(.slice nb2 b.states.toNat nc2), (.slice mb2 b.states.toNat mc2), .int .u64 ((2 ^ b.sets.length - 1 : Nat) : Int)], oI bx2 29 [(.slice none 0 0), (.slice none 0 0)], oI bx1 26 (buCells b sb sc eb ec tb tc), rowI mb2 b.states.toNat 52 1 (uns ms), rowI wb wc 5 1 (byts w0), rowI cb cc 3 1 (nats cn)] ++ []) (some ⟨bx9, 0, none⟩) 1 [cu] (fun w hI => hI.slOf (List.mem_of_getElem? (i := 0) rfl)) (by simp) (by simpa using hcu) (by simp) (some ⟨bx7, 0, none⟩) b.states.toNat sm (fun w hI => hI.slOf (List.mem_of_getElem? (i := 3) rfl)) hsl false (.func (.func 75) #[] #[.pointer (some ⟨bx3, 0, none⟩), .pointer (some ⟨bx8, 0, none⟩)]) (fun s => (ms.getD s.toNat 0).testBit j) (fun x hx => CallV.pick [5, 1, 6] [rowI (some ⟨bx9, 0, none⟩) 1 3 1 [.int .i64 (cu : Int)], oI bx8 3 [(.int .i64 (j : Int))], rowI lb3 lc3 5 1 (byts lw), rowI (some ⟨bx7, 0, none⟩) b.states.toNat 4 1 (bools sm), oI bx6 3 [(.int .i64 ((first : Nat) : Int))], oI bx3 79 [(.slice nb2 b.states.toNat nc2), (.slice mb2 b.states.toNat mc2), .int .u64 ((2 ^ b.sets.length - 1 : Nat) : Int)], oI bx2 29 [(.slice none 0 0), (.slice none 0 0)], oI bx1 26 (buCells b sb sc eb ec tb tc), rowI mb2 b.states.toNat 52 1 (uns ms), rowI wb wc 5 1 (byts w0), rowI cb cc 3 1 (nats cn)] [] [oI bx3 79 [(.slice nb2 b.states.toNat nc2), (.slice mb2 b.states.toNat mc2), .int .u64 ((2 ^ b.sets.length - 1 : Nat) : Int)], oI bx8 3 [(.int .i64 (j : Int))], rowI mb2 b.states.toNat 52 1 (uns ms)] rfl (CallV.of_fn (first := []) (args := [.int .i64 (x : Int)]) (caps := [.pointer (some ⟨bx3, 0, none⟩), .pointer (some ⟨bx8, 0, none⟩)]) ent75 (by have h9 := witMark w bx3 bx8 nb2 mb2 b.states.toNat nc2 mc2 b.states.toNat j ((2 ^ b.sets.length - 1 : Nat) : Int) ms (x : Int) (by omega) (by rw [hg.l]; omega) (by omega) hms; rw [hg.l] at h9; exact h9))) hex2; rw [hsl] at h9; exact h9
    refine TO.loud rfl (l_call ent72 hk91 rfl ?_)
    clear hk91
    rintro vr O' ⟨w2, cu2, wb2, wc2, rfl, rfl, ⟨s2, hs2, hp2⟩, hcn2, hcm2, -, hw2⟩
    refine TO.quiet (q_move rfl) (TO.quiet (q_extract (vs := _) rfl rfl) (TO.quiet (q_extract (vs := _) rfl rfl) (TO.quiet (q_assign rfl) ?_)))
    refine TO.quiet (q_assign rfl) ?_
    refine TO.nil ?_
    have hs2e : cu = s2 := (List.mem_singleton.1 hs2).symm
    subst hs2e
    refine T.region ?_
    refine TO.quiet (q_move rfl) (TO.quiet (q_move rfl) ?_)
    refine TO.loud rfl (l_append 3 Try.underlying27 Try.underlying27 inf5 rfl rfl rfl rfl (by simp) (by decide) (Src.row (j := 0) rfl (by simp)) (byts_one w2) (by omega) (by decide) (by decide) (fun bx10 c11 => ?_))
    refine TO.quiet (q_move rfl) (TO.quiet (q_assign rfl) (TO.quiet (q_assign rfl) ?_))
    refine TO.nil (T.region ?_)
    refine TO.quiet (q_addN (a := j) (b := 1) rfl rfl (by omega)) (TO.quiet (q_move rfl) ?_)
    refine TO.nil ?_
    refine ⟨j + 1, by omega, [rowI bx10 c11 5 1 ((byts lw) ++ (byts w2)), rowI (some ⟨bx7, 0, none⟩) b.states.toNat 4 1 (bools sm), oI bx6 3 [(.int .i64 ((first : Nat) : Int))], oI bx3 79 [(.slice nb2 b.states.toNat nc2), (.slice mb2 b.states.toNat mc2), .int .u64 ((2 ^ b.sets.length - 1 : Nat) : Int)], oI bx2 29 [(.slice none 0 0), (.slice none 0 0)], oI bx1 26 (buCells b sb sc eb ec tb tc), rowI mb2 b.states.toNat 52 1 (uns ms), rowI wb wc 5 1 (byts w0), rowI cb cc 3 1 (nats cn)], (Sub.pick [3, 3, 3, 3, 3, 3, 3, 3, 3] rfl), lw ++ w2, cu2, bx10, c11, by rw [show byts (lw ++ w2) = byts lw ++ byts w2 from List.map_append], by omega, ?_, (hsp.h cu2 hcn2).1 (hp2.al_end ((hsp.h cu hcu).2 ⟨hrf, hrb⟩)) |>.1, (hsp.h cu2 hcn2).1 (hp2.al_end ((hsp.h cu hcu).2 ⟨hrf, hrb⟩)) |>.2, hcn2, ?_, ⟨rfl, rfl, rfl, rfl, rfl, rfl, rfl, rfl, rfl, rfl, rfl, rfl, rfl, (by rw [List.length_append]; rfl), rfl, rfl, rfl, trivial⟩⟩
    · obtain ⟨S9, h8, h9⟩ := (mk_bit hg hcn2).1 hcm2
      exact hlw.step hp2 h8 h9
    · rw [List.length_append, Nat.mul_succ]; have h9 : w2.length + 1 ≤ b.states.toNat := hw2; omega
  have hge83 : ¬ j < b.sets.length := by omega
  refine T.exit ?_
  refine T.seq ?_
  have hje : j = b.sets.length := by omega
  refine T.region ?_
  refine TO.quiet (q_load_boxAgg 5 Try.underlying26 rfl inf26 rfl rfl rfl) (TO.quiet (q_move rfl) ?_)
  refine TO.loud rfl (l_build1 (v := .int .i64 (cu : Int)) Try.underlying22 inf3 rfl rfl rfl (fun bx12 => ?_))
  refine TO.quiet (q_move rfl) (TO.quiet (q_move rfl) (TO.quiet (q_load_box 3 Try.underlying3 rfl rfl rfl rfl) (TO.quiet (q_eql rfl rfl) ?_)))
  by_cases hs107 : (cu : Int) = ((first : Nat) : Int)
  · refine TO.quiet (QT.toB (q_move rfl) (decide_eq_true hs107)) ?_
    refine TO.guarded rfl rfl rfl (LT.of_quiet rfl rfl (q_move rfl) ?_)
    refine TO.guarded rfl rfl rfl (LT.of_quiet rfl rfl (q_len Try.underlying27 rfl) ?_)
    refine TO.guarded rfl rfl rfl (LT.of_quiet rfl rfl (q_eql rfl rfl) ?_)
    refine TO.quiet (q_pick1 rfl rfl) (TO.quiet (q_makeFunc) ?_)
    have hk113 := by have h9 := lettersF w b sb eb tb sc ec tc vs h hB hv ([rowI (some ⟨bx12, 0, none⟩) 1 3 1 [.int .i64 (cu : Int)], rowI lb3 lc3 5 1 (byts lw), rowI (some ⟨bx7, 0, none⟩) b.states.toNat 4 1 (bools sm), oI bx6 3 [(.int .i64 ((first : Nat) : Int))], oI bx3 79 [(.slice nb2 b.states.toNat nc2), (.slice mb2 b.states.toNat mc2), .int .u64 ((2 ^ b.sets.length - 1 : Nat) : Int)], oI bx2 29 [(.slice none 0 0), (.slice none 0 0)], oI bx1 26 (buCells b sb sc eb ec tb tc), rowI mb2 b.states.toNat 52 1 (uns ms), rowI wb wc 5 1 (byts w0), rowI cb cc 3 1 (nats cn)] ++ []) (some ⟨bx12, 0, none⟩) 1 [cu] (fun w hI => hI.slOf (List.mem_of_getElem? (i := 0) rfl)) (by simp) (by simpa using hcu) (by simp) (some ⟨bx7, 0, none⟩) b.states.toNat sm (fun w hI => hI.slOf (List.mem_of_getElem? (i := 2) rfl)) hsl (decide ((lw.length : Int) = 0)) (.func (.func 76) #[] #[.pointer (some ⟨bx6, 0, none⟩)]) (fun s => decide (s = (first : Int))) (fun x hx => CallV.pick [3] [rowI (some ⟨bx12, 0, none⟩) 1 3 1 [.int .i64 (cu : Int)], rowI lb3 lc3 5 1 (byts lw), rowI (some ⟨bx7, 0, none⟩) b.states.toNat 4 1 (bools sm), oI bx6 3 [(.int .i64 ((first : Nat) : Int))], oI bx3 79 [(.slice nb2 b.states.toNat nc2), (.slice mb2 b.states.toNat mc2), .int .u64 ((2 ^ b.sets.length - 1 : Nat) : Int)], oI bx2 29 [(.slice none 0 0), (.slice none 0 0)], oI bx1 26 (buCells b sb sc eb ec tb tc), rowI mb2 b.states.toNat 52 1 (uns ms), rowI wb wc 5 1 (byts w0), rowI cb cc 3 1 (nats cn)] [] [oI bx6 3 [(.int .i64 ((first : Nat) : Int))]] rfl (CallV.of_fn (first := []) (args := [.int .i64 (x : Int)]) (caps := [.pointer (some ⟨bx6, 0, none⟩)]) ent76 (witEq w bx6 (first : Int) (x : Int)))) (by obtain ⟨w9, h1, h2⟩ := hsp.back hv hco hrf hrb (far := (decide ((lw.length : Int) = 0))) (by intro _; omega); exact ⟨cu, by simp, w9, first, h1, by simp, h2⟩); rw [hsl] at h9; exact h9
    refine TO.loud rfl (l_call ent72 hk113 rfl ?_)
    clear hk113
    rintro vr O' ⟨w3, cu3, wb3, wc3, rfl, rfl, ⟨s3, hs3, hp3⟩, hcn3, hcm3, hfar3, hw3⟩
    refine TO.quiet (q_move rfl) (TO.quiet (q_extract (vs := _) rfl rfl) (TO.quiet (q_extract (vs := _) rfl rfl) (TO.quiet (q_assign rfl) ?_)))
    refine TO.quiet (q_assign rfl) ?_
    refine TO.nil (T.seq ?_)
    have hs3e : cu = s3 := (List.mem_singleton.1 hs3).symm
    subst hs3e
    have hc3 : first = cu3 := by have h9 : decide ((cu3 : Int) = (first : Int)) = true := hcm3; have := of_decide_eq_true h9; omega
    subst hc3
    have hlw3 := hlw.cat hp3
    rw [hje] at hlw3 hll3
    have hw3n : w3.length ≤ b.states.toNat := by omega
    have hbig : b.states.toNat * b.sets.length ≤ 4096 * 8 := Nat.mul_le_mul (by omega) hm8
    have hpos : 0 < (lw ++ w3).length := by
      rw [List.length_append]
      apply Nat.pos_of_ne_zero; intro h9
      have hw : w3 = [] := List.eq_nil_of_length_eq_zero (by omega)
      subst hw
      cases hp3
      first
      | exact hs107 rfl
      | exact hfar3 (decide_eq_true (show ((lw.length : Nat) : Int) = 0 by omega)) rfl
    have hLB : LaB ⟨w0, lw ++ w3⟩ := ⟨by show w0.length ≤ _; omega, by show (lw ++ w3).length ≤ _; rw [List.length_append]; omega, fun x hx => by obtain ⟨e, he, rfl⟩ := hp0.mem x hx; exact (hB.pn e he).1, fun x hx => by obtain ⟨p9, hp9, _⟩ := hlw3; obtain ⟨e, he, rfl⟩ := hp9.mem x hx; exact (hB.pn e he).1⟩
    refine T.region ?_
    refine TO.quiet (q_move rfl) (TO.quiet (q_move rfl) (TO.quiet (q_move rfl) ?_))
    refine TO.loud rfl (l_append 2 Try.underlying27 Try.underlying27 inf5 rfl rfl rfl rfl (by simp) (by decide) (Src.row (j := 0) rfl (by simp)) (byts_one w3) (by omega) (by decide) (by decide) (fun bx13 c14 => ?_))
    refine TO.quiet (QT.cast (q_build (cs := [.slice wb w0.length wc, .slice bx13 (lw.length + w3.length) c14]) plan29 inf29 (by kernel_rfl)) (v' := .agg #[.slice wb w0.length wc, .slice bx13 (lw ++ w3).length c14]) (by rw [List.length_append])) ?_
    have hk121 := fun (w1 : World) (hI : Inv w [rowI wb3 wc3 5 1 (byts w3), rowI (some ⟨bx12, 0, none⟩) 1 3 1 [.int .i64 (cu : Int)], rowI bx13 c14 5 1 ((byts lw) ++ (byts w3)), rowI (some ⟨bx7, 0, none⟩) b.states.toNat 4 1 (bools sm), oI bx6 3 [(.int .i64 ((first : Nat) : Int))], oI bx3 79 [(.slice nb2 b.states.toNat nc2), (.slice mb2 b.states.toNat mc2), .int .u64 ((2 ^ b.sets.length - 1 : Nat) : Int)], oI bx2 29 [(.slice none 0 0), (.slice none 0 0)], oI bx1 26 (buCells b sb sc eb ec tb tc), rowI mb2 b.states.toNat 52 1 (uns ms), rowI wb wc 5 1 (byts w0), rowI cb cc 3 1 (nats cn)] w1) => canonicalF w1 ⟨w0, lw ++ w3⟩ wb bx13 wc c14 ⟨hI.slOf (List.mem_of_getElem? (i := 9) rfl), by have h9 := hI.slOf (List.mem_of_getElem? (i := 2) rfl); show Sl w1 _ (List.map _ (lw ++ w3)); rw [List.map_append]; exact h9, by have h9 := rowP.cap (hI.row (i := 9) rfl); simpa using h9, by have h9 := rowP.cap (hI.row (i := 2) rfl); simpa using h9⟩ hLB hpos
    refine TO.loud rfl (l_call ent29 (CallT.of_pure hk121) rfl ?_)
    clear hk121
    rintro vr O' ⟨N, rfl, c, pb2, lb2, pc2, lc2, rfl, rfl, hcan⟩
    refine TO.loud rfl (l_store_box (v := (.agg (laCells c pb2 pc2 lb2 lc2).toArray)) (vs := (laCells c pb2 pc2 lb2 lc2)) 8 inf29 rfl rfl rfl rfl rfl rfl (by simp [putL]) ?_)
    refine TO.quiet (q_assign rfl) ?_
    refine TO.nil (T.ret (Res.drop ?_))
    refine Res.cell1b (.int .i64 0) (i := 8) Try.results27 Try.underlying29 rfl inf29 rfl rfl rfl rfl ?_
    exact ⟨[rowI pb2 pc2 5 1 (byts c.pre), rowI lb2 lc2 5 1 (byts c.loop)], (Sub.pick [0, 0] rfl), c, pb2, lb2, pc2, lc2, 0, rfl, rfl, by unfold witE; rw [if_neg (by omega), if_pos ⟨s0, (hfm s0 hs0).2⟩], fun h9 => absurd rfl h9, fun _ => WitOf.of hv (hfm s0 hs0).2.1 hp0 hlw3 hpos (by omega) (by rw [List.length_append, Nat.mul_succ]; omega) hcan⟩
  refine TO.quiet (QT.toB (q_move rfl) (decide_eq_false hs107)) ?_
  refine TO.passed rfl rfl ?_
  refine TO.passed rfl rfl ?_
  refine TO.passed rfl rfl ?_
  refine TO.quiet (q_pick0 rfl rfl) (TO.quiet (q_makeFunc) ?_)
  have hk113 := by have h9 := lettersF w b sb eb tb sc ec tc vs h hB hv ([rowI (some ⟨bx12, 0, none⟩) 1 3 1 [.int .i64 (cu : Int)], rowI lb3 lc3 5 1 (byts lw), rowI (some ⟨bx7, 0, none⟩) b.states.toNat 4 1 (bools sm), oI bx6 3 [(.int .i64 ((first : Nat) : Int))], oI bx3 79 [(.slice nb2 b.states.toNat nc2), (.slice mb2 b.states.toNat mc2), .int .u64 ((2 ^ b.sets.length - 1 : Nat) : Int)], oI bx2 29 [(.slice none 0 0), (.slice none 0 0)], oI bx1 26 (buCells b sb sc eb ec tb tc), rowI mb2 b.states.toNat 52 1 (uns ms), rowI wb wc 5 1 (byts w0), rowI cb cc 3 1 (nats cn)] ++ []) (some ⟨bx12, 0, none⟩) 1 [cu] (fun w hI => hI.slOf (List.mem_of_getElem? (i := 0) rfl)) (by simp) (by simpa using hcu) (by simp) (some ⟨bx7, 0, none⟩) b.states.toNat sm (fun w hI => hI.slOf (List.mem_of_getElem? (i := 2) rfl)) hsl false (.func (.func 76) #[] #[.pointer (some ⟨bx6, 0, none⟩)]) (fun s => decide (s = (first : Int))) (fun x hx => CallV.pick [3] [rowI (some ⟨bx12, 0, none⟩) 1 3 1 [.int .i64 (cu : Int)], rowI lb3 lc3 5 1 (byts lw), rowI (some ⟨bx7, 0, none⟩) b.states.toNat 4 1 (bools sm), oI bx6 3 [(.int .i64 ((first : Nat) : Int))], oI bx3 79 [(.slice nb2 b.states.toNat nc2), (.slice mb2 b.states.toNat mc2), .int .u64 ((2 ^ b.sets.length - 1 : Nat) : Int)], oI bx2 29 [(.slice none 0 0), (.slice none 0 0)], oI bx1 26 (buCells b sb sc eb ec tb tc), rowI mb2 b.states.toNat 52 1 (uns ms), rowI wb wc 5 1 (byts w0), rowI cb cc 3 1 (nats cn)] [] [oI bx6 3 [(.int .i64 ((first : Nat) : Int))]] rfl (CallV.of_fn (first := []) (args := [.int .i64 (x : Int)]) (caps := [.pointer (some ⟨bx6, 0, none⟩)]) ent76 (witEq w bx6 (first : Int) (x : Int)))) (by obtain ⟨w9, h1, h2⟩ := hsp.back hv hco hrf hrb (far := false) (by intro h; cases h); exact ⟨cu, by simp, w9, first, h1, by simp, h2⟩); rw [hsl] at h9; exact h9
  refine TO.loud rfl (l_call ent72 hk113 rfl ?_)
  clear hk113
  rintro vr O' ⟨w3, cu3, wb3, wc3, rfl, rfl, ⟨s3, hs3, hp3⟩, hcn3, hcm3, hfar3, hw3⟩
  refine TO.quiet (q_move rfl) (TO.quiet (q_extract (vs := _) rfl rfl) (TO.quiet (q_extract (vs := _) rfl rfl) (TO.quiet (q_assign rfl) ?_)))
  refine TO.quiet (q_assign rfl) ?_
  refine TO.nil (T.seq ?_)
  have hs3e : cu = s3 := (List.mem_singleton.1 hs3).symm
  subst hs3e
  have hc3 : first = cu3 := by have h9 : decide ((cu3 : Int) = (first : Int)) = true := hcm3; have := of_decide_eq_true h9; omega
  subst hc3
  have hlw3 := hlw.cat hp3
  rw [hje] at hlw3 hll3
  have hw3n : w3.length ≤ b.states.toNat := by omega
  have hbig : b.states.toNat * b.sets.length ≤ 4096 * 8 := Nat.mul_le_mul (by omega) hm8
  have hpos : 0 < (lw ++ w3).length := by
    rw [List.length_append]
    apply Nat.pos_of_ne_zero; intro h9
    have hw : w3 = [] := List.eq_nil_of_length_eq_zero (by omega)
    subst hw
    cases hp3
    first
    | exact hs107 rfl
    | exact hfar3 (decide_eq_true (show ((lw.length : Nat) : Int) = 0 by omega)) rfl
  have hLB : LaB ⟨w0, lw ++ w3⟩ := ⟨by show w0.length ≤ _; omega, by show (lw ++ w3).length ≤ _; rw [List.length_append]; omega, fun x hx => by obtain ⟨e, he, rfl⟩ := hp0.mem x hx; exact (hB.pn e he).1, fun x hx => by obtain ⟨p9, hp9, _⟩ := hlw3; obtain ⟨e, he, rfl⟩ := hp9.mem x hx; exact (hB.pn e he).1⟩
  refine T.region ?_
  refine TO.quiet (q_move rfl) (TO.quiet (q_move rfl) (TO.quiet (q_move rfl) ?_))
  refine TO.loud rfl (l_append 2 Try.underlying27 Try.underlying27 inf5 rfl rfl rfl rfl (by simp) (by decide) (Src.row (j := 0) rfl (by simp)) (byts_one w3) (by omega) (by decide) (by decide) (fun bx15 c16 => ?_))
  refine TO.quiet (QT.cast (q_build (cs := [.slice wb w0.length wc, .slice bx15 (lw.length + w3.length) c16]) plan29 inf29 (by kernel_rfl)) (v' := .agg #[.slice wb w0.length wc, .slice bx15 (lw ++ w3).length c16]) (by rw [List.length_append])) ?_
  have hk121 := fun (w1 : World) (hI : Inv w [rowI wb3 wc3 5 1 (byts w3), rowI (some ⟨bx12, 0, none⟩) 1 3 1 [.int .i64 (cu : Int)], rowI bx15 c16 5 1 ((byts lw) ++ (byts w3)), rowI (some ⟨bx7, 0, none⟩) b.states.toNat 4 1 (bools sm), oI bx6 3 [(.int .i64 ((first : Nat) : Int))], oI bx3 79 [(.slice nb2 b.states.toNat nc2), (.slice mb2 b.states.toNat mc2), .int .u64 ((2 ^ b.sets.length - 1 : Nat) : Int)], oI bx2 29 [(.slice none 0 0), (.slice none 0 0)], oI bx1 26 (buCells b sb sc eb ec tb tc), rowI mb2 b.states.toNat 52 1 (uns ms), rowI wb wc 5 1 (byts w0), rowI cb cc 3 1 (nats cn)] w1) => canonicalF w1 ⟨w0, lw ++ w3⟩ wb bx15 wc c16 ⟨hI.slOf (List.mem_of_getElem? (i := 9) rfl), by have h9 := hI.slOf (List.mem_of_getElem? (i := 2) rfl); show Sl w1 _ (List.map _ (lw ++ w3)); rw [List.map_append]; exact h9, by have h9 := rowP.cap (hI.row (i := 9) rfl); simpa using h9, by have h9 := rowP.cap (hI.row (i := 2) rfl); simpa using h9⟩ hLB hpos
  refine TO.loud rfl (l_call ent29 (CallT.of_pure hk121) rfl ?_)
  clear hk121
  rintro vr O' ⟨N, rfl, c, pb2, lb2, pc2, lc2, rfl, rfl, hcan⟩
  refine TO.loud rfl (l_store_box (v := (.agg (laCells c pb2 pc2 lb2 lc2).toArray)) (vs := (laCells c pb2 pc2 lb2 lc2)) 8 inf29 rfl rfl rfl rfl rfl rfl (by simp [putL]) ?_)
  refine TO.quiet (q_assign rfl) ?_
  refine TO.nil (T.ret (Res.drop ?_))
  refine Res.cell1b (.int .i64 0) (i := 8) Try.results27 Try.underlying29 rfl inf29 rfl rfl rfl rfl ?_
  exact ⟨[rowI pb2 pc2 5 1 (byts c.pre), rowI lb2 lc2 5 1 (byts c.loop)], (Sub.pick [0, 0] rfl), c, pb2, lb2, pc2, lc2, 0, rfl, rfl, by unfold witE; rw [if_neg (by omega), if_pos ⟨s0, (hfm s0 hs0).2⟩], fun h9 => absurd rfl h9, fun _ => WitOf.of hv (hfm s0 hs0).2.1 hp0 hlw3 hpos (by omega) (by rw [List.length_append, Nat.mul_succ]; omega) hcan⟩
end Go.Proofs.Ytnamoapbienooaa


namespace Go.Lx
open Go.RowKit
set_option linter.unusedVariables false
inductive Rea (E : Nat → Nat → Prop) (al : Nat → Bool) (root X : Nat → Prop) : Nat → Prop
  | root {v : Nat} : root v → al v = true → Rea E al root X v
  | base {u v : Nat} : X u → E u v → al v = true → Rea E al root X v
  | step {u v : Nat} : Rea E al root X u → E u v → al v = true → Rea E al root X v
def visK (al : Nat → Bool) (keep : List Bool) (v : Nat) : List Bool := if al v = true ∧ ¬ keep.getD v false = true then keep.set v true else keep
def visT (al : Nat → Bool) (keep : List Bool) (todo : List Nat) (v : Nat) : List Nat := if al v = true ∧ ¬ keep.getD v false = true then todo ++ [v] else todo
structure SeaP (nx : List (List Int)) (al : Nat → Bool) (roots : List Int) (X : Nat → Prop) (keep : List Bool) (todo : List Nat) (k cur j : Nat) : Prop where
  l : keep.length = nx.length
  snd : ∀ v, keep.getD v false = true → Rea (adjE nx) al (fun v => (v : Int) ∈ roots) X v
  td : ∀ u ∈ todo, u < nx.length ∧ (X u ∨ keep.getD u false = true)
  cls : ∀ u, (X u ∨ keep.getD u false = true) → u ∉ todo → ∀ v, v < nx.length → adjE nx u v → al v = true → keep.getD v false = true ∨ (u = cur ∧ (v : Int) ∉ (nx.getD cur []).take j)
  rts : ∀ v : Nat, (v : Int) ∈ roots.take k → al v = true → keep.getD v false = true
  mu : todo.length + keep.count false ≤ nx.length + 1
section
variable {nx : List (List Int)} {al : Nat → Bool} {roots : List Int} {X : Nat → Prop} {keep : List Bool} {todo : List Nat} {k cur j : Nat}
theorem getB_lt {l : List Bool} {v : Nat} (h : l.getD v false = true) : v < l.length := by
  by_cases hv : v < l.length
  · exact hv
  · rw [List.getD_eq_getElem?_getD, List.getElem?_eq_none (by omega)] at h; cases h
theorem count_mark {l : List Bool} {v : Nat} (hv : v < l.length) (h : ¬ l.getD v false = true) : (l.set v true).count false + 1 = l.count false := by
  have h1 : l[v] = false := by rw [gb hv] at h; simpa using h
  have h2 : 0 < l.count false := List.count_pos_iff.2 (by rw [← h1]; exact List.getElem_mem hv)
  rw [List.count_set hv, h1]; simp; omega
theorem SeaP.vis (h : SeaP nx al roots X keep todo k cur j) {v : Nat} (hv : v < nx.length) (hw : al v = true → Rea (adjE nx) al (fun v => (v : Int) ∈ roots) X v) :
    SeaP nx al roots X (visK al keep v) (visT al keep todo v) k cur j ∧ (al v = true → (visK al keep v).getD v false = true) ∧ (∀ x, keep.getD x false = true → (visK al keep v).getD x false = true) ∧ (visT al keep todo v).length + (visK al keep v).count false = todo.length + keep.count false := by
  unfold visK visT
  by_cases hc : al v = true ∧ ¬ keep.getD v false = true
  · rw [if_pos hc, if_pos hc]
    have hvl : v < keep.length := by rw [h.l]; exact hv
    have hs := fun x => getB_set (a := true) hvl x
    have hmono : ∀ x, keep.getD x false = true → (keep.set v true).getD x false = true := fun x hx => by rw [hs]; split <;> simp_all
    have hcnt := count_mark hvl hc.2
    refine ⟨⟨by rw [List.length_set]; exact h.l, fun x hx => ?_, fun u hu => ?_, fun u hu hn x hx he ha => ?_, fun x hx ha => hmono x (h.rts x hx ha), ?_⟩, fun _ => by rw [hs, if_pos rfl], hmono, ?_⟩
    · rw [hs] at hx
      by_cases e : x = v
      · subst e; exact hw hc.1
      · rw [if_neg e] at hx; exact h.snd x hx
    · rcases List.mem_append.1 hu with hu | hu
      · obtain ⟨h1, h2⟩ := h.td u hu
        exact ⟨h1, h2.imp id (hmono u)⟩
      · rw [List.mem_singleton] at hu; subst hu
        exact ⟨hv, .inr (by rw [hs, if_pos rfl])⟩
    · rw [List.mem_append, not_or, List.mem_singleton] at hn
      rw [hs, if_neg hn.2] at hu
      exact (h.cls u hu hn.1 x hx he ha).imp (hmono x) id
    · have := h.mu; rw [List.length_append, List.length_singleton]; omega
    · rw [List.length_append, List.length_singleton]; omega
  · rw [if_neg hc, if_neg hc]
    refine ⟨h, fun ha => ?_, fun _ hx => hx, rfl⟩
    apply Classical.byContradiction; intro h9; exact hc ⟨ha, h9⟩
theorem SeaP.root (h : SeaP nx al roots X keep todo k cur j) (hk : k < roots.length) {v : Nat} (he : roots[k] = (v : Int)) (hv : v < nx.length) :
    SeaP nx al roots X (visK al keep v) (visT al keep todo v) (k + 1) cur j := by
  obtain ⟨h1, h2, h3, _⟩ := h.vis hv (fun ha => .root (by show (v : Int) ∈ roots; rw [← he]; exact List.getElem_mem hk) ha)
  refine { h1 with rts := fun x hx ha => ?_ }
  rw [List.take_succ_eq_append_getElem hk, List.mem_append, List.mem_singleton, he] at hx
  rcases hx with hx | hx
  · exact h3 x (h.rts x hx ha)
  · have : x = v := by omega
    subst this; exact h2 ha
theorem SeaP.edge (h : SeaP nx al roots X keep todo k cur j) (hc : cur < nx.length) (hx : X cur ∨ keep.getD cur false = true) (hj : j < nx[cur].length) {v : Nat} (he : nx[cur][j] = (v : Int)) (hv : v < nx.length) :
    SeaP nx al roots X (visK al keep v) (visT al keep todo v) k cur (j + 1) ∧ (visT al keep todo v).length + (visK al keep v).count false = todo.length + keep.count false := by
  have hrow : nx.getD cur [] = nx[cur] := getD_at hc
  have hE : adjE nx cur v := ⟨nx[cur], List.getElem?_eq_getElem hc, by rw [← he]; exact List.getElem_mem hj⟩
  obtain ⟨h1, h2, h3, h4⟩ := h.vis hv (fun ha => hx.elim (fun q => .base q hE ha) (fun q => .step (h.snd _ q) hE ha))
  refine ⟨{ h1 with cls := fun u hu hn x hxl hxe ha => ?_ }, h4⟩
  rcases h1.cls u hu hn x hxl hxe ha with q | ⟨rfl, q⟩
  · exact .inl q
  · by_cases e : x = v
    · subst e; exact .inl (h2 ha)
    · refine .inr ⟨rfl, ?_⟩
      rw [hrow, List.take_succ_eq_append_getElem hj, List.mem_append, List.mem_singleton, he, not_or]
      rw [hrow] at q
      exact ⟨q, by omega⟩
theorem SeaP.edge_mono (al : Nat → Bool) {keep : List Bool} {v x : Nat} (h : keep.getD x false = true) : (visK al keep v).getD x false = true := by
  unfold visK
  split
  · have hx := getB_lt h
    by_cases hv : v < keep.length
    · rw [getB_set hv]; split <;> simp_all
    · rw [List.set_eq_of_length_le (by omega)]; exact h
  · exact h
theorem SeaP.pop {u : Nat} {rest : List Nat} (h : SeaP nx al roots X keep (u :: rest) k cur j) (hj : ∀ r, nx[cur]? = some r → r.length ≤ j) :
    SeaP nx al roots X keep rest k u 0 := by
  refine { h with td := fun x hx => h.td x (List.mem_cons_of_mem _ hx), cls := fun x hx hn v hv he ha => ?_, mu := ?_ }
  · by_cases e : x = u
    · subst e; exact .inr ⟨rfl, by simp⟩
    · rcases h.cls x hx (by rw [List.mem_cons, not_or]; exact ⟨e, hn⟩) v hv he ha with q | ⟨rfl, q⟩
      · exact .inl q
      · obtain ⟨r, h1, h2⟩ := he
        exfalso; apply q
        rw [List.getD_eq_getElem?_getD, h1, Option.getD_some, List.take_of_length_le (hj r h1)]; exact h2
  · have := h.mu; simp at this; omega
theorem SeaP.done (hok : okRows nx) (h : SeaP nx al roots X keep [] k cur j) (hk : roots.length ≤ k) (hj : ∀ r, nx[cur]? = some r → r.length ≤ j) (v : Nat) : keep.getD v false = true ↔ Rea (adjE nx) al (fun v => (v : Int) ∈ roots) X v := by
  have hc : ∀ u, (X u ∨ keep.getD u false = true) → ∀ v, adjE nx u v → al v = true → keep.getD v false = true := fun u hu v he ha => by
    rcases h.cls u hu (by simp) v (adjE_lt hok he).2 he ha with q | ⟨rfl, q⟩
    · exact q
    · obtain ⟨r, h1, h2⟩ := he
      exfalso; apply q
      rw [List.getD_eq_getElem?_getD, h1, Option.getD_some, List.take_of_length_le (hj r h1)]; exact h2
  constructor
  · exact h.snd v
  · intro hr
    induction hr with
    | root h1 h2 => exact h.rts _ (by rw [List.take_of_length_le hk]; exact h1) h2
    | base h1 h2 h3 => exact hc _ (.inl h1) _ h2 h3
    | step h1 h2 h3 ih => exact hc _ (.inr ih) _ h2 h3
theorem SeaP.start0 (X : Nat → Prop) {roots : List Int} {todo : List Nat} (hX : ∀ u, X u → u ∈ todo) (ht : ∀ u ∈ todo, u < nx.length ∧ X u) (hl : todo.length ≤ 1) : SeaP nx al roots X (List.replicate nx.length false) todo 0 nx.length 0 := by
  have hf : ∀ v, ¬ (List.replicate nx.length false).getD v false = true := fun v => by
    by_cases hv : v < nx.length
    · simp [hv]
    · rw [List.getD_eq_getElem?_getD, List.getElem?_eq_none (by simp; omega)]; simp
  refine ⟨by simp, fun v hv => absurd hv (hf v), fun u hu => ⟨(ht u hu).1, .inl (ht u hu).2⟩, fun u hu hn => ?_, fun v hv => by simp at hv, by rw [List.count_replicate_self]; omega⟩
  exfalso
  exact hu.elim (fun q => hn (hX u q)) (hf u)
end
theorem rea_live {E : Nat → Nat → Prop} {al : Nat → Bool} {root : Nat → Prop} (hb : ∀ u v, E u v → al v = true → al u = true) {v : Nat} : Rea E al root (fun _ => False) v ↔ al v = true ∧ ∃ s, root s ∧ Rch E s v := by
  constructor
  · intro h
    induction h with
    | root h1 h2 => exact ⟨h2, _, h1, .refl _⟩
    | base h1 => exact h1.elim
    | step h1 h2 h3 ih => obtain ⟨_, s, h4, h5⟩ := ih; exact ⟨h3, s, h4, h5.tail h2⟩
  · rintro ⟨h1, s, h2, h3⟩
    have key : ∀ {s v : Nat}, Rch E s v → al v = true → Rea E al root (fun _ => False) s → Rea E al root (fun _ => False) v := by
      intro s v h
      induction h with
      | refl => intro _ h; exact h
      | step e h ih =>
        intro ha hr
        refine ih ha (.step hr e ?_)
        have back : ∀ {x y : Nat}, Rch E x y → al y = true → al x = true := by
          intro x y h
          induction h with
          | refl => exact id
          | step e _ ih => intro hy; exact hb _ _ e (ih hy)
        exact back h ha
    have hs : al s = true := by
      have back : ∀ {x y : Nat}, Rch E x y → al y = true → al x = true := by
        intro x y h
        induction h with
        | refl => exact id
        | step e _ ih => intro hy; exact hb _ _ e (ih hy)
      exact back h3 h1
    exact key h3 h1 (.root h2 hs)
theorem vis_hit {al : Nat → Bool} {keep : List Bool} {todo : List Nat} {v : Nat} (h : al v = true) (h2 : ¬ keep.getD v false = true) : visK al keep v = keep.set v true ∧ visT al keep todo v = todo ++ [v] := by
  unfold visK visT; rw [if_pos ⟨h, h2⟩, if_pos ⟨h, h2⟩]; exact ⟨rfl, rfl⟩
theorem vis_miss {al : Nat → Bool} {keep : List Bool} {todo : List Nat} {v : Nat} (h : ¬ (al v = true ∧ ¬ keep.getD v false = true)) : visK al keep v = keep ∧ visT al keep todo v = todo := by
  unfold visK visT; rw [if_neg h, if_neg h]; exact ⟨rfl, rfl⟩
end Go.Lx


namespace Go.Lx
open Go.RowKit
set_option linter.unusedVariables false
def cntK (keep : List Bool) (s : Nat) : Nat := (keep.take s).count true
theorem cntK_succ {keep : List Bool} {s : Nat} (h : s < keep.length) : cntK keep (s + 1) = cntK keep s + if keep.getD s false = true then 1 else 0 := by
  unfold cntK
  rw [List.take_succ_eq_append_getElem h, List.count_append, gb h]
  cases keep[s] <;> rfl
theorem cntK_le (keep : List Bool) (s : Nat) : cntK keep s ≤ s := Nat.le_trans List.count_le_length (by rw [List.length_take]; omega)
theorem cntK_all {keep : List Bool} {s : Nat} (h : keep.length ≤ s) : cntK keep s = keep.count true := by unfold cntK; rw [List.take_of_length_le h]
def renK (keep : List Bool) (l : List Int) : List Int := (l.filter fun s => keep.getD s.toNat false).map fun s => ((cntK keep s.toNat : Nat) : Int)
theorem renK_yes {keep : List Bool} {l : List Int} {k : Nat} (hk : k < l.length) {s : Nat} (e : l[k] = (s : Int)) (h : keep.getD s false = true) : renK keep (l.take (k + 1)) = renK keep (l.take k) ++ [((cntK keep s : Nat) : Int)] := by
  unfold renK; rw [List.take_succ_eq_append_getElem hk, List.filter_append, List.map_append, e]; simp only [List.filter_cons, Int.toNat_natCast, h, if_true, List.filter_nil, List.map_cons, List.map_nil]
theorem renK_no {keep : List Bool} {l : List Int} {k : Nat} (hk : k < l.length) {s : Nat} (e : l[k] = (s : Int)) (h : ¬ keep.getD s false = true) : renK keep (l.take (k + 1)) = renK keep (l.take k) := by
  unfold renK; rw [List.take_succ_eq_append_getElem hk, List.filter_append, List.map_append, e]
  have : keep.getD s false = false := by simpa using h
  simp only [List.filter_cons, Int.toNat_natCast, this, Bool.false_eq_true, if_false, List.filter_nil, List.map_nil, List.append_nil]
theorem renK_len (keep : List Bool) (l : List Int) : (renK keep l).length ≤ l.length := by unfold renK; rw [List.length_map]; exact List.length_filter_le _ _
theorem renK_lenT (keep : List Bool) (l : List Int) (k : Nat) : (renK keep (l.take k)).length ≤ l.length := Nat.le_trans (renK_len _ _) (by rw [List.length_take]; omega)
def renE (keep : List Bool) (e : Ed) : Ed := ⟨((cntK keep e.fr.toNat : Nat) : Int), ((cntK keep e.to.toNat : Nat) : Int), e.pos, e.neg⟩
def edK (keep : List Bool) (es : List Ed) : List Ed := (es.filter fun e => keep.getD e.fr.toNat false && keep.getD e.to.toNat false).map (renE keep)
theorem edK_yes {keep : List Bool} {es : List Ed} {k : Nat} (hk : k < es.length) (h : keep.getD es[k].fr.toNat false = true) (h2 : keep.getD es[k].to.toNat false = true) : edK keep (es.take (k + 1)) = edK keep (es.take k) ++ [renE keep es[k]] := by
  unfold edK; rw [List.take_succ_eq_append_getElem hk, List.filter_append, List.map_append]; simp only [List.filter_cons, h, h2, Bool.and_self, if_true, List.filter_nil, List.map_cons, List.map_nil]
theorem edK_no {keep : List Bool} {es : List Ed} {k : Nat} (hk : k < es.length) (h : ¬ (keep.getD es[k].fr.toNat false = true ∧ keep.getD es[k].to.toNat false = true)) : edK keep (es.take (k + 1)) = edK keep (es.take k) := by
  unfold edK; rw [List.take_succ_eq_append_getElem hk, List.filter_append, List.map_append]
  have : (keep.getD es[k].fr.toNat false && keep.getD es[k].to.toNat false) = false := by
    rw [← Bool.not_eq_true, Bool.and_eq_true]; exact h
  simp only [List.filter_cons, this, Bool.false_eq_true, if_false, List.filter_nil, List.map_nil, List.append_nil]
theorem edK_len (keep : List Bool) (l : List Ed) : (edK keep l).length ≤ l.length := by unfold edK; rw [List.length_map]; exact List.length_filter_le _ _
theorem edK_lenT (keep : List Bool) (l : List Ed) (k : Nat) : (edK keep (l.take k)).length ≤ l.length := Nat.le_trans (edK_len _ _) (by rw [List.length_take]; omega)
def trimWith (b : Bu) (keep : List Bool) : Bu := { vars := b.vars, states := ((keep.count true : Nat) : Int), start := renK keep b.start, edges := edK keep b.edges, sets := b.sets.map (renK keep) }
def zeroBu : Bu := { vars := 0, states := 0, start := [], edges := [], sets := [] }
def keepP (b : Bu) (v : Nat) : Prop := liveB b v ∧ ∃ s : Nat, (s : Int) ∈ b.start ∧ Rch (autE b) s v
open Classical in
noncomputable def keepB (b : Bu) : List Bool := (List.range b.states.toNat).map fun v => decide (keepP b v)
open Classical in
noncomputable def trimB (b : Bu) : Bu := if checkB b = 0 then trimWith b (keepB b) else zeroBu
open Classical in
theorem keepB_of {b : Bu} {ks : List Bool} (hl : ks.length = b.states.toNat) (h : ∀ v, v < b.states.toNat → (ks.getD v false = true ↔ keepP b v)) : ks = keepB b := by
  unfold keepB
  apply List.ext_getElem (by simp [hl])
  intro i h1 h2
  have h3 := h i (by omega)
  rw [gb h1] at h3
  rw [List.getElem_map, List.getElem_range]
  by_cases e : keepP b i
  · rw [decide_eq_true e]; exact h3.2 e
  · rw [decide_eq_false e]; rw [← Bool.not_eq_true]; exact fun q => e (h3.1 q)
structure NumP (keep : List Bool) (k : Nat) (ns : List Nat) : Prop where
  l : ns.length = keep.length
  h : ∀ s, s < k → keep.getD s false = true → ns.getD s 0 = cntK keep s
theorem NumP.start (keep : List Bool) : NumP keep 0 (List.replicate keep.length 0) := ⟨by simp, fun s hs => by omega⟩
theorem NumP.yes {keep : List Bool} {k : Nat} {ns : List Nat} (h : NumP keep k ns) (hk : k < keep.length) : NumP keep (k + 1) (ns.set k (cntK keep k)) := by
  refine ⟨by simp [h.l], fun s hs hy => ?_⟩
  have := fn_set (l := ns) (v := k) (a := cntK keep k) (by rw [h.l]; exact hk) s
  rw [show (ns.set k (cntK keep k)).getD s 0 = fn (ns.set k (cntK keep k)) s from rfl, this]
  by_cases e : s = k
  · rw [if_pos e, e]
  · rw [if_neg e]; exact h.h s (by omega) hy
theorem NumP.no {keep : List Bool} {k : Nat} {ns : List Nat} (h : NumP keep k ns) (hn : ¬ keep.getD k false = true) : NumP keep (k + 1) ns := by
  refine ⟨h.l, fun s hs hy => ?_⟩
  by_cases e : s = k
  · subst e; exact absurd hy hn
  · exact h.h s (by omega) hy
theorem NumP.get {keep : List Bool} {ns : List Nat} (h : NumP keep keep.length ns) {s : Nat} (hs : s < ns.length) (hk : keep.getD s false = true) : ns[s] = cntK keep s := by
  have := h.h s (by rw [← h.l]; exact hs) hk
  rwa [gd hs] at this
theorem keep_live {b : Bu} (he : checkB b = 0) {nx : List (List Int)} {ms : List Nat} (hv : ValidB b) (hg : AutG b nx ms) {v : Nat} (hvn : v < b.states.toNat) : Rea (adjE nx) (fun v => (livesB b).getD v false) (fun v => (v : Int) ∈ b.start) (fun _ => False) v ↔ keepP b v := by
  have hback : ∀ x y, adjE nx x y → (livesB b).getD y false = true → (livesB b).getD x false = true := fun x y hxy hy => by
    have h1 := adjE_lt (hg.ok hv) hxy
    have hl : nx.length = b.states.toNat := hg.r.l
    have h2 := (livesB_get he (by omega)).1 hy
    refine (livesB_get he (by omega)).2 ?_
    rw [hg.adj hv] at hxy
    exact LiveG.back h2 (.one hxy)
  rw [rea_live hback, livesB_get he hvn, hg.adj hv]; exact Iff.rfl
end Go.Lx


namespace Go.Proofs.Ytnamoapbienooaa
open Go.Lx Go.RowKit
set_option linter.unusedVariables false
set_option linter.unusedSimpArgs false
set_option maxHeartbeats 1000000 in
set_option maxRecDepth 20000 in
theorem trimVisit (base : World) (b4 b5 b6 : Nat) (lb kb tb : Option Addr) (lc lq kc kq tc : Nat) (ls ks : List Bool) (todo : List Nat) (s : Nat) (hs : s < ls.length) (hs2 : s < ks.length) (hb : todo.length ≤ 1000000) :
    CallT Try.prog base 77 [.int .i64 (s : Int), .pointer (some ⟨b4, 0, none⟩), .pointer (some ⟨b5, 0, none⟩), .pointer (some ⟨b6, 0, none⟩)] [oI b4 39 [(.slice lb ls.length lc)], rowI lb lq 4 1 (bools ls), oI b5 39 [(.slice kb ks.length kc)], rowI kb kq 4 1 (bools ks), oI b6 22 [(.slice tb todo.length tc)], rowI tb tc 3 1 (nats todo)] (fun _ O' => ∃ tb' tc', O' = [oI b4 39 [(.slice lb ls.length lc)], rowI lb lq 4 1 (bools ls), oI b5 39 [(.slice kb ks.length kc)], rowI kb kq 4 1 (bools (visK (fun v => ls.getD v false) ks s)), oI b6 22 [(.slice tb' ((visT (fun v => ls.getD v false) ks todo s).length) tc')], rowI tb' tc' 3 1 (nats (visT (fun v => ls.getD v false) ks todo s))]) := by
  refine CallT.enter Try.func77 rfl Try.ntmps77 rfl ?_
  refine T.seq (T.region ?_)
  refine TO.quiet (q_load_box 0 Try.underlying39 rfl rfl rfl rfl) (TO.quiet (q_move rfl) (TO.quiet (q_ix (i := s) Try.underlying39 inf4 rfl rfl (rowO (List.mem_of_getElem? (i := 1) rfl))) (TO.quiet (q_ld Try.underlying4 rfl rfl (rowO (List.mem_of_getElem? (i := 1) rfl)) bools_get) ?_)))
  by_cases hs9 : ls[s] = true
  · refine TO.quiet (QT.toB (q_move rfl) (hs9)) ?_
    refine TO.guarded rfl rfl rfl (LT.of_quiet rfl rfl (q_load_box 2 Try.underlying39 rfl rfl rfl rfl) ?_)
    refine TO.guarded rfl rfl rfl (LT.of_quiet rfl rfl (q_move rfl) ?_)
    refine TO.guarded rfl rfl rfl (LT.of_quiet rfl rfl (q_ix (i := s) Try.underlying39 inf4 rfl rfl (rowO (List.mem_of_getElem? (i := 3) rfl))) ?_)
    refine TO.guarded rfl rfl rfl (LT.of_quiet rfl rfl (q_ld Try.underlying4 rfl rfl (rowO (List.mem_of_getElem? (i := 3) rfl)) bools_get) ?_)
    refine TO.guarded rfl rfl rfl (LT.of_quiet rfl rfl (q_not rfl) ?_)
    refine TO.quiet (q_pick1 rfl rfl) ?_
    refine TO.nil ?_
    refine T.cond rfl (fun hc => ?_) (fun hc => ?_)
    · refine T.seq ?_
      refine T.region ?_
      refine TO.quiet (q_load_box 2 Try.underlying39 rfl rfl rfl rfl) (TO.quiet (q_move rfl) (TO.quiet (q_ix (i := s) Try.underlying39 inf4 rfl rfl (rowO (List.mem_of_getElem? (i := 3) rfl))) ?_))
      refine TO.loud rfl (l_st (j := s) (v := .bool true) (vs := [(.bool true)]) (cs := bools ks) 3 inf4 rfl rfl rfl rfl rfl (by simp) rfl (by first | (simp; omega) | (simp_all; omega)) ?_)
      refine TO.sub (O' := [oI b4 39 [(.slice lb ls.length lc)], rowI lb lq 4 1 (bools ls), oI b5 39 [(.slice kb ks.length kc)], rowI kb kq 4 1 (bools (ks.set s true)), oI b6 22 [(.slice tb todo.length tc)], rowI tb tc 3 1 (nats todo)]) (by rw [show putL (bools ks) s [(.bool true)] = bools (ks.set s true) from (by simp [putL])]; exact Sub.of (List.Sublist.refl _)) ?_
      refine TO.nil (T.region ?_)
      refine TO.quiet (q_load_box 4 Try.underlying22 rfl rfl rfl rfl) (TO.quiet (q_move rfl) ?_)
      refine TO.loud rfl (l_build1 (v := .int .i64 (s : Int)) Try.underlying22 inf3 rfl rfl rfl (fun bx1 => ?_))
      refine TO.loud rfl (l_append 6 Try.underlying22 Try.underlying22 inf3 rfl rfl rfl rfl (by simp) (by decide) (Src.row (j := 0) rfl (by simp)) (by simp [oneB]) (by omega) (by decide) (by decide) (fun bx2 c3 => ?_))
      refine TO.loud rfl (l_store_box (v := (.slice bx2 (todo.length + 1) c3)) (vs := [(.slice bx2 (todo.length + 1) c3)]) 5 inf22 rfl rfl rfl rfl rfl rfl (by simp [putL]) ?_)
      refine TO.nil (Res.drop ?_)
      refine Res.zero Try.results77 ?_
      have hvis := vis_hit (al := fun v => ls.getD v false) (keep := ks) (todo := todo) (v := s) (by rw [gb hs]; assumption) (by rw [gb hs2]; simp_all)
      rw [hvis.1, hvis.2]
      exact ⟨[oI b4 39 [(.slice lb ls.length lc)], rowI lb lq 4 1 (bools ls), oI b5 39 [(.slice kb ks.length kc)], rowI kb kq 4 1 (bools (ks.set s true)), oI b6 22 [(.slice bx2 (todo.length + 1) c3)], rowI bx2 c3 3 1 ((nats todo) ++ [.int .i64 (s : Int)])], (Sub.pick [1, 1, 1, 1, 1, 1] rfl), bx2, c3, by rw [List.length_append, show nats (todo ++ [s]) = nats todo ++ [.int .i64 (s : Int)] from List.map_append]; rfl⟩
    refine T.skip (Res.drop ?_)
    refine Res.zero Try.results77 ?_
    have hvis := vis_miss (al := fun v => ls.getD v false) (keep := ks) (todo := todo) (v := s) (by rw [gb hs, gb hs2]; simp_all)
    rw [hvis.1, hvis.2]
    exact ⟨[oI b4 39 [(.slice lb ls.length lc)], rowI lb lq 4 1 (bools ls), oI b5 39 [(.slice kb ks.length kc)], rowI kb kq 4 1 (bools ks), oI b6 22 [(.slice tb todo.length tc)], rowI tb tc 3 1 (nats todo)], (Sub.pick [0, 0, 0, 0, 0, 0] rfl), tb, tc, rfl⟩
  refine TO.quiet (QT.toB (q_move rfl) (Bool.eq_false_iff.2 hs9)) ?_
  refine TO.passed rfl rfl ?_
  refine TO.passed rfl rfl ?_
  refine TO.passed rfl rfl ?_
  refine TO.passed rfl rfl ?_
  refine TO.passed rfl rfl ?_
  refine TO.quiet (q_pick0 rfl rfl) ?_
  refine TO.nil ?_
  refine T.cond0 rfl ?_
  refine T.skip (Res.drop ?_)
  refine Res.zero Try.results77 ?_
  have hvis := vis_miss (al := fun v => ls.getD v false) (keep := ks) (todo := todo) (v := s) (by rw [gb hs, gb hs2]; simp_all)
  rw [hvis.1, hvis.2]
  exact ⟨[oI b4 39 [(.slice lb ls.length lc)], rowI lb lq 4 1 (bools ls), oI b5 39 [(.slice kb ks.length kc)], rowI kb kq 4 1 (bools ks), oI b6 22 [(.slice tb todo.length tc)], rowI tb tc 3 1 (nats todo)], (Sub.pick [0, 0, 0, 0, 0, 0] rfl), tb, tc, rfl⟩
set_option maxHeartbeats 1000000 in
set_option maxRecDepth 20000 in
theorem trimRename (base : World) (b5 b14 : Nat) (kb nb lb : Option Addr) (kc kq nc nq lc : Nat) (ks : List Bool) (ns : List Nat) (l : List Int) (hN : NumP ks ks.length ns) (hL : Sl base lb (ints l)) (hl : ∀ x ∈ l, 0 ≤ x ∧ x.toNat < ks.length) (hb : l.length ≤ 1000000) :
    CallT Try.prog base 78 [.slice lb l.length lc, .pointer (some ⟨b5, 0, none⟩), .pointer (some ⟨b14, 0, none⟩)] [oI b5 39 [(.slice kb ks.length kc)], rowI kb kq 4 1 (bools ks), oI b14 22 [(.slice nb ns.length nc)], rowI nb nq 3 1 (nats ns)] (fun v O' => ∃ rb rc, v = .slice rb (renK ks l).length rc ∧ O' = [rowI rb rc 3 1 (ints (renK ks l)), oI b5 39 [(.slice kb ks.length kc)], rowI kb kq 4 1 (bools ks), oI b14 22 [(.slice nb ns.length nc)], rowI nb nq 3 1 (nats ns)]) := by
  refine CallT.enter Try.func78 rfl Try.ntmps78 rfl ?_
  refine T.seq (T.region ?_)
  refine TO.quiet (q_assign rfl) ?_
  refine TO.nil (T.seq (T.seq (T.region ?_)))
  refine TO.quiet (q_move rfl) (TO.quiet (q_len Try.underlying22 rfl) (TO.quiet (q_move rfl) ?_))
  refine TO.nil (T.block ?_)
  refine T.nilRow 3 1 ?_
  refine T.loopS (fun (k : Nat) ρ O => ∃ (rb : Option Addr) (rc : Nat), O = [rowI rb rc 3 1 (ints (renK ks (l.take k))), oI b5 39 [(.slice kb ks.length kc)], rowI kb kq 4 1 (bools ks), oI b14 22 [(.slice nb ns.length nc)], rowI nb nq 3 1 (nats ns)] ∧ k ≤ l.length ∧ Heads [(0, (.slice lb l.length lc)), (1, (.pointer (some ⟨b5, 0, none⟩))), (2, (.pointer (some ⟨b14, 0, none⟩))), (4, (.slice rb ((renK ks (l.take k)).length) rc)), (7, (.slice lb l.length lc)), (8, .int .i64 (l.length : Int)), (9, .int .i64 (k : Int))] ρ) (fun k => l.length - k) 0 ?_ ?_
  · exact ⟨none, 0, rfl, Nat.zero_le _, ⟨rfl, rfl, rfl, rfl, rfl, rfl, rfl, trivial⟩⟩
  rintro k ρ O ⟨rb, rc, rfl, hk, hH⟩
  obtain ⟨ρ0, rfl⟩ := hH.elim
  clear hH
  refine T.seq (T.region ?_)
  refine TO.quiet (q_lss rfl rfl) ?_
  refine TO.nil (T.seq ?_)
  refine T.condP rfl (fun hc => ?_) (fun hc => ?_)
  · have hlt10 : k < l.length := by omega
    obtain ⟨s, hsx, hsn⟩ : ∃ s : Nat, l[k] = (s : Int) ∧ s < ks.length := by
      have := hl _ (List.getElem_mem hlt10)
      exact ⟨l[k].toNat, by omega, by omega⟩
    have hsn2 : s < ns.length := by rw [hN.l]; exact hsn
    have hrl := renK_lenT ks l k
    refine T.skip (T.seq (T.block (T.seq (T.region ?_))))
    refine TO.quiet (q_ix (i := k) Try.underlying22 inf3 rfl rfl (fun w hI => hI.sl hL)) (TO.quiet (q_ld Try.underlying3 rfl rfl (fun w hI => hI.sl hL) (show (ints l)[k]? = _ by rw [ints_get hlt10, hsx])) (TO.quiet (q_assign rfl) ?_))
    refine TO.nil (T.seq (T.region ?_))
    refine TO.quiet (q_load_box 1 Try.underlying39 rfl rfl rfl rfl) (TO.quiet (q_move rfl) (TO.quiet (q_ix (i := s) Try.underlying39 inf4 rfl rfl (rowO (List.mem_of_getElem? (i := 2) rfl))) (TO.quiet (q_ld Try.underlying4 rfl rfl (rowO (List.mem_of_getElem? (i := 2) rfl)) bools_get) ?_)))
    refine TO.nil ?_
    refine T.cond rfl (fun hc => ?_) (fun hc => ?_)
    · refine T.region ?_
      refine TO.quiet (q_move rfl) (TO.quiet (q_load_box 3 Try.underlying22 rfl rfl rfl rfl) (TO.quiet (q_move rfl) (TO.quiet (q_ix (i := s) Try.underlying22 inf3 rfl rfl (rowO (List.mem_of_getElem? (i := 4) rfl))) ?_)))
      refine TO.quiet (q_ld Try.underlying3 rfl rfl (rowO (List.mem_of_getElem? (i := 4) rfl)) (show (nats ns)[s]? = some (.int .i64 ((cntK ks s : Nat) : Int)) by rw [nats_get hsn2, hN.get hsn2 (by rw [gb hsn]; assumption)])) ?_
      refine TO.loud rfl (l_build1 (v := .int .i64 ((cntK ks s : Nat) : Int)) Try.underlying22 inf3 rfl rfl rfl (fun bx1 => ?_))
      refine TO.loud rfl (l_append 1 Try.underlying22 Try.underlying22 inf3 rfl rfl rfl rfl (by simp) (by decide) (Src.row (j := 0) rfl (by simp)) (by simp [oneB]) (by omega) (by decide) (by decide) (fun bx2 c3 => ?_))
      refine TO.quiet (q_assign rfl) ?_
      refine TO.nil (T.region ?_)
      refine TO.quiet (q_addN (a := k) (b := 1) rfl rfl (by omega)) (TO.quiet (q_move rfl) ?_)
      refine TO.nil ?_
      refine ⟨k + 1, by omega, [rowI bx2 c3 3 1 ((ints (renK ks (l.take k))) ++ [.int .i64 ((cntK ks s : Nat) : Int)]), oI b5 39 [(.slice kb ks.length kc)], rowI kb kq 4 1 (bools ks), oI b14 22 [(.slice nb ns.length nc)], rowI nb nq 3 1 (nats ns)], (Sub.pick [1, 1, 1, 1, 1] rfl), bx2, c3, ?_, by omega, ⟨rfl, rfl, rfl, (by rw [renK_yes hlt10 hsx (by rw [gb hsn]; assumption), List.length_append]; rfl), rfl, rfl, rfl, trivial⟩⟩
      rw [renK_yes hlt10 hsx (by rw [gb hsn]; assumption), show ints (renK ks (l.take k) ++ [((cntK ks s : Nat) : Int)]) = ints (renK ks (l.take k)) ++ [.int .i64 ((cntK ks s : Nat) : Int)] from List.map_append]
    refine T.skip (T.region ?_)
    refine TO.quiet (q_addN (a := k) (b := 1) rfl rfl (by omega)) (TO.quiet (q_move rfl) ?_)
    refine TO.nil ?_
    refine ⟨k + 1, by omega, [rowI rb rc 3 1 (ints (renK ks (l.take k))), oI b5 39 [(.slice kb ks.length kc)], rowI kb kq 4 1 (bools ks), oI b14 22 [(.slice nb ns.length nc)], rowI nb nq 3 1 (nats ns)], (Sub.pick [0, 0, 0, 0, 0] rfl), rb, rc, ?_, by omega, ⟨rfl, rfl, rfl, (by rw [renK_no hlt10 hsx (by rw [gb hsn]; simp_all)]; rfl), rfl, rfl, rfl, trivial⟩⟩
    rw [renK_no hlt10 hsx (by rw [gb hsn]; simp_all)]
  have hge10 : ¬ k < l.length := by omega
  refine T.exit ?_
  refine T.seq (T.region ?_)
  refine TO.quiet (q_move rfl) (TO.quiet (q_assign rfl) ?_)
  refine TO.nil (T.ret (Res.drop ?_))
  refine Res.one (.slice rb ((renK ks (l.take k)).length) rc) Try.results78 rfl ?_
  have hkt : l.take k = l := List.take_of_length_le (by omega)
  rw [hkt]
  exact ⟨[rowI rb rc 3 1 (ints (renK ks l)), oI b5 39 [(.slice kb ks.length kc)], rowI kb kq 4 1 (bools ks), oI b14 22 [(.slice nb ns.length nc)], rowI nb nq 3 1 (nats ns)], (Sub.pick [0, 0, 0, 0, 0] rfl), rb, rc, rfl, rfl⟩
end Go.Proofs.Ytnamoapbienooaa


namespace Go.Proofs.Ytnamoapbienooaa
open Go.Lx Go.RowKit
set_option linter.unusedVariables false
set_option linter.unusedSimpArgs false
theorem nums_at {qs : List Rec} {u : Nat} (h : u < qs.length) : (nums qs)[u]'(by simpa [nums] using h) = qs[u].xs := by simp [nums]
set_option maxHeartbeats 4000000 in
set_option maxRecDepth 20000 in
theorem trimF (w : World) (b : Bu) (sb eb tb : Option Addr) (sc ec tc : Nat) (vs : List Value) (h : BuAt w b sb eb tb vs) (hB : BuB b) :
    PureT Try.prog 28 [.agg (buCells b sb sc eb ec tb tc).toArray] w fun v N => ∃ sb2 eb2 tb2 sc2 ec2 tc2 qs, v = .tuple #[.agg (buCells (trimB b) sb2 sc2 eb2 ec2 tb2 tc2).toArray, .int .i64 (checkB b : Int)] ∧ N = [rowI sb2 sc2 3 1 (ints (trimB b).start), rowI eb2 ec2 54 4 (edsC (trimB b).edges), rowI tb2 tc2 22 1 (vals qs)] ++ itms 3 qs ∧ nums qs = (trimB b).sets := by
  refine CallT.enter Try.func28 rfl Try.ntmps28 rfl ?_
  have hst := hB.st; have hed := hB.ed; have hse := hB.se
  refine T.seq (T.region ?_)
  refine TO.loud rfl (l_box (v := (.agg (buCells b sb sc eb ec tb tc).toArray)) (cs := (buCells b sb sc eb ec tb tc)) rfl rfl (fun bx1 => ?_))
  refine TO.loud rfl (l_alloc inf26 rfl (fun bx2 => ?_))
  refine TO.quiet (q_assign rfl) ?_
  refine TO.nil (T.seq (T.region ?_))
  refine TO.quiet (q_load_boxAgg 1 Try.underlying26 rfl inf26 rfl rfl rfl) ?_
  have hk23 := fun (w1 : World) (hI : Inv w [oI bx2 26 [(.int .i64 0), (.int .i64 0), (.slice none 0 0), (.slice none 0 0), (.slice none 0 0)], oI bx1 26 (buCells b sb sc eb ec tb tc)] w1) => livesF w1 b sb eb tb sc ec tc vs (hI.bu h) hB
  refine TO.loud rfl (l_call ent19 (CallT.of_pure hk23) rfl ?_)
  clear hk23
  rintro vr O' ⟨N, rfl, lb, lc, rfl, rfl⟩
  refine TO.quiet (q_move rfl) (TO.quiet (q_extract (vs := _) rfl rfl) (TO.quiet (q_extract (vs := _) rfl rfl) ?_))
  refine TO.loud rfl (l_alloc inf39 rfl (fun bx3 => ?_))
  refine TO.loud rfl (l_store_box (v := (.slice lb ((livesB b).length) lc)) (vs := [(.slice lb ((livesB b).length) lc)]) 0 inf39 rfl rfl rfl rfl rfl rfl (by simp [putL]) ?_)
  refine TO.quiet (q_assign rfl) ?_
  refine TO.nil (T.seq (T.seq (T.region ?_)))
  refine TO.quiet (q_move rfl) (TO.quiet (q_neq rfl rfl) ?_)
  refine TO.nil ?_
  refine T.condP rfl (fun hc => ?_) (fun hc => ?_)
  · have hlt27 : checkB b ≠ 0 := by omega
    refine T.seq ?_
    refine T.nilRow 22 1 ?_
    refine T.nilRow 54 4 ?_
    refine T.nilRow 3 1 ?_
    refine T.region ?_
    refine TO.quiet (q_load_boxAgg 5 Try.underlying26 rfl inf26 rfl rfl rfl) (TO.quiet (q_move rfl) ?_)
    refine TO.loud rfl (l_store_box (v := (.agg #[(.int .i64 0), (.int .i64 0), (.slice none 0 0), (.slice none 0 0), (.slice none 0 0)])) (vs := [(.int .i64 0), (.int .i64 0), (.slice none 0 0), (.slice none 0 0), (.slice none 0 0)]) 5 inf26 rfl rfl rfl rfl rfl rfl (by simp [putL]) ?_)
    refine TO.quiet (q_assign rfl) ?_
    refine TO.nil (T.ret (Res.drop ?_))
    refine Res.cell1b (.int .i64 (checkB b : Int)) (i := 5) Try.results28 Try.underlying26 rfl inf26 rfl rfl rfl rfl ?_
    have htr : trimB b = zeroBu := by unfold trimB; rw [if_neg (by omega)]
    refine ⟨[rowI none 0 3 1 [], rowI none 0 54 4 [], rowI none 0 22 1 []] ++ itms 3 [], ?_, none, none, none, 0, 0, 0, [], ?_, ?_, ?_⟩
    · exact Sub.cnt [oI bx3 39 [(.slice lb ((livesB b).length) lc)], rowI lb lc 4 1 (bools (livesB b)), oI bx2 26 [(.int .i64 0), (.int .i64 0), (.slice none 0 0), (.slice none 0 0), (.slice none 0 0)], oI bx1 26 (buCells b sb sc eb ec tb tc)] (by intro a; simp only [itms, oI, List.set_cons_zero, List.set_cons_succ, putL, List.cons_append, List.nil_append, List.append_nil, List.append_assoc, List.map_append, List.map_cons, List.map_nil, cnt_append, cnt_cons, cnt_nil, buCells, laCells] <;> omega)
    · rw [htr]; rfl
    · rw [htr]; rfl
    · rw [htr]; rfl
  have hge27 : ¬ checkB b ≠ 0 := by omega
  refine T.skip (T.seq ?_)
  have he : checkB b = 0 := by omega
  have hv : ValidB b := checkB_zero.1 he
  have hv0 := hv.n0; have hv4 := hv.n4; have hm8 := hv.m8
  refine T.region ?_
  refine TO.quiet (q_fieldAddr Try.underlying26 rfl inf3 rfl rfl) (TO.quiet (QT.cast (q_load_box 3 Try.underlying3 rfl rfl rfl rfl) (v' := .int .i64 ((b.states.toNat : Nat) : Int)) (by show Value.int _ b.states = _; rw [Int.toNat_of_nonneg hv0])) ?_)
  refine TO.loud rfl (l_makeSlice (m := b.states.toNat) Try.underlying39 inf4 rfl rfl (by omega) (by omega) (fun bx4 => ?_))
  refine TO.loud rfl (l_alloc inf39 rfl (fun bx5 => ?_))
  refine TO.loud rfl (l_store_box (v := (.slice (some ⟨bx4, 0, none⟩) b.states.toNat b.states.toNat)) (vs := [(.slice (some ⟨bx4, 0, none⟩) b.states.toNat b.states.toNat)]) 0 inf39 rfl rfl rfl rfl rfl rfl (by simp [putL]) ?_)
  refine TO.nil (T.seq (T.region ?_))
  refine TO.loud rfl (l_alloc inf22 rfl (fun bx6 => ?_))
  refine TO.nil (T.seq (T.region ?_))
  refine TO.quiet (q_makeFunc) (TO.quiet (q_assign rfl) ?_)
  refine TO.nil (T.seq (T.region ?_))
  refine TO.quiet (q_load_boxAgg 6 Try.underlying26 rfl inf26 rfl rfl rfl) ?_
  have hk35 := fun (w1 : World) (hI : Inv w [oI bx6 22 [(.slice none 0 0)], oI bx5 39 [(.slice (some ⟨bx4, 0, none⟩) b.states.toNat b.states.toNat)], rowI (some ⟨bx4, 0, none⟩) b.states.toNat 4 1 (List.replicate b.states.toNat (.bool false)), oI bx3 39 [(.slice lb ((livesB b).length) lc)], rowI lb lc 4 1 (bools (livesB b)), oI bx2 26 [(.int .i64 0), (.int .i64 0), (.slice none 0 0), (.slice none 0 0), (.slice none 0 0)], oI bx1 26 (buCells b sb sc eb ec tb tc)] w1) => automatonF w1 b sb eb tb sc ec tc vs (hI.bu h) hB hv
  refine TO.loud rfl (l_call ent62 (CallT.of_pure hk35) rfl ?_)
  clear hk35
  rintro vr O' ⟨N, rfl, nb2, nc2, mb2, mc2, qs, ms, rfl, rfl, hg⟩
  refine TO.sub (O' := ([rowI nb2 b.states.toNat 22 1 (vals qs), rowI mb2 b.states.toNat 52 1 (uns ms), oI bx6 22 [(.slice none 0 0)], oI bx5 39 [(.slice (some ⟨bx4, 0, none⟩) b.states.toNat b.states.toNat)], rowI (some ⟨bx4, 0, none⟩) b.states.toNat 4 1 (List.replicate b.states.toNat (.bool false)), oI bx3 39 [(.slice lb ((livesB b).length) lc)], rowI lb lc 4 1 (bools (livesB b)), oI bx2 26 [(.int .i64 0), (.int .i64 0), (.slice none 0 0), (.slice none 0 0), (.slice none 0 0)], oI bx1 26 (buCells b sb sc eb ec tb tc)] ++ (itms 3 qs))) (Sub.cnt [] (by intro a; simp only [itms, oI, List.set_cons_zero, List.set_cons_succ, putL, List.cons_append, List.nil_append, List.append_nil, List.append_assoc, List.map_append, List.map_cons, List.map_nil, cnt_append, cnt_cons, cnt_nil, buCells, laCells] <;> omega)) ?_
  refine TO.quiet (q_field Try.underlying79 rfl Try.underlying24 rfl rfl rfl) (TO.quiet (q_assign rfl) ?_)
  refine TO.nil (T.seq (T.seq (T.region ?_)))
  refine TO.quiet (q_fieldAddr Try.underlying26 rfl inf22 rfl rfl) (TO.quiet (q_load_box 8 Try.underlying22 rfl rfl rfl rfl) (TO.quiet (q_len Try.underlying22 rfl) (TO.quiet (q_move rfl) ?_)))
  refine TO.nil (T.block ?_)
  refine T.nilRow 3 1 ?_
  refine T.sub (O' := [oI bx3 39 [(.slice lb ((livesB b).length) lc)], rowI lb lc 4 1 (bools (livesB b)), oI bx5 39 [(.slice (some ⟨bx4, 0, none⟩) b.states.toNat b.states.toNat)], rowI (some ⟨bx4, 0, none⟩) b.states.toNat 4 1 (List.replicate b.states.toNat (.bool false)), oI bx6 22 [(.slice none 0 0)], rowI none 0 3 1 [], oI bx2 26 [(.int .i64 0), (.int .i64 0), (.slice none 0 0), (.slice none 0 0), (.slice none 0 0)], oI bx1 26 (buCells b sb sc eb ec tb tc), rowI nb2 b.states.toNat 22 1 (vals qs)] ++ itms 3 qs) (Sub.pickR [6, 6, 4, 4, 3, 0, 2, 2, 0] [rowI none 0 3 1 [], rowI nb2 b.states.toNat 22 1 (vals qs), rowI mb2 b.states.toNat 52 1 (uns ms), oI bx6 22 [(.slice none 0 0)], oI bx5 39 [(.slice (some ⟨bx4, 0, none⟩) b.states.toNat b.states.toNat)], rowI (some ⟨bx4, 0, none⟩) b.states.toNat 4 1 (List.replicate b.states.toNat (.bool false)), oI bx3 39 [(.slice lb ((livesB b).length) lc)], rowI lb lc 4 1 (bools (livesB b)), oI bx2 26 [(.int .i64 0), (.int .i64 0), (.slice none 0 0), (.slice none 0 0), (.slice none 0 0)], oI bx1 26 (buCells b sb sc eb ec tb tc)] (itms 3 qs) rfl rfl) ?_
  have hql : qs.length = b.states.toNat := by have h9 := hg.r.l; simpa [nums] using h9
  refine T.loop (fun (k : Nat) ρ O => ∃ (ka : List Bool) (ta : List Nat) (tb1 : Option Addr) (tc1 : Nat), O = ([oI bx3 39 [(.slice lb ((livesB b).length) lc)], rowI lb lc 4 1 (bools (livesB b)), oI bx5 39 [(.slice (some ⟨bx4, 0, none⟩) b.states.toNat b.states.toNat)], rowI (some ⟨bx4, 0, none⟩) b.states.toNat 4 1 (bools ka), oI bx6 22 [(.slice tb1 ta.length tc1)], rowI tb1 tc1 3 1 (nats ta), oI bx2 26 [(.int .i64 0), (.int .i64 0), (.slice none 0 0), (.slice none 0 0), (.slice none 0 0)], oI bx1 26 (buCells b sb sc eb ec tb tc), rowI nb2 b.states.toNat 22 1 (vals qs)] ++ (itms 3 qs)) ∧ k ≤ b.start.length ∧ SeaP (nums qs) (fun v => (livesB b).getD v false) b.start (fun _ => False) ka ta k (nums qs).length 0 ∧ Heads [(0, (.agg (buCells b sb sc eb ec tb tc).toArray)), (1, (.pointer (some ⟨bx1, 0, none⟩))), (2, (.pointer (some ⟨bx2, 0, none⟩))), (3, .int .i64 (checkB b : Int)), (4, (.pointer (some ⟨bx3, 0, none⟩))), (5, (.pointer (some ⟨bx5, 0, none⟩))), (6, (.pointer (some ⟨bx6, 0, none⟩))), (7, (.func (.func 77) #[] #[(.pointer (some ⟨bx3, 0, none⟩)), (.pointer (some ⟨bx5, 0, none⟩)), (.pointer (some ⟨bx6, 0, none⟩))])), (8, (.slice nb2 b.states.toNat nc2)), (38, (.slice sb b.start.length sc)), (39, .int .i64 (b.start.length : Int)), (40, .int .i64 (k : Int))] ρ) (fun k => b.start.length - k) 0 ?_ ?_
  · refine ⟨List.replicate b.states.toNat false, [], none, 0, by simp only [List.map_replicate]; rfl, Nat.zero_le _, ?_, ⟨rfl, rfl, rfl, rfl, rfl, rfl, rfl, rfl, rfl, rfl, rfl, rfl, trivial⟩⟩
    have h9 := SeaP.start0 (nx := nums qs) (al := (fun v => (livesB b).getD v false)) (fun _ => False) (roots := b.start) (todo := []) (fun _ h => h.elim) (fun u h => absurd h (List.not_mem_nil)) (Nat.zero_le _)
    rw [hg.r.l] at h9 ⊢; exact h9
  rintro k ρ O ⟨ka, ta, tb1, tc1, rfl, hk, hsa, hH⟩
  obtain ⟨ρ0, rfl⟩ := hH.elim
  clear hH
  have hka : ka.length = b.states.toNat := by rw [hsa.l, hg.r.l]
  have hma := hsa.mu
  rw [hg.r.l] at hma
  refine T.seq (T.region ?_)
  refine TO.quiet (q_lss rfl rfl) ?_
  refine TO.nil (T.seq ?_)
  refine T.condP rfl (fun hc => ?_) (fun hc => ?_)
  · have hlt41 : k < b.start.length := by omega
    obtain ⟨x, hx, hxn⟩ : ∃ x : Nat, b.start[k] = (x : Int) ∧ x < b.states.toNat := by
      have := hv.st _ (List.getElem_mem hlt41)
      exact ⟨b.start[k].toNat, by omega, by omega⟩
    refine T.skip (T.seq (T.block (T.seq (T.region ?_))))
    refine TO.quiet (q_ix (i := k) Try.underlying22 inf3 rfl rfl (Sl.o h.st)) (TO.quiet (q_ld Try.underlying3 rfl rfl (Sl.o h.st) (show (ints b.start)[k]? = _ by rw [ints_get hlt41, hx])) (TO.quiet (q_assign rfl) ?_))
    refine TO.nil (T.region ?_)
    refine TO.quiet (q_move rfl) (TO.quiet (q_move rfl) ?_)
    have hk46 := ((CallV.of_fn (first := []) (args := [.int .i64 ((x : Nat) : Int)]) (caps := [.pointer (some ⟨bx3, 0, none⟩), .pointer (some ⟨bx5, 0, none⟩), .pointer (some ⟨bx6, 0, none⟩)]) ent77 (by
      have h9 := trimVisit w bx3 bx5 bx6 lb (some ⟨bx4, 0, none⟩) tb1 lc lc b.states.toNat b.states.toNat tc1 (livesB b) ka ta x (by rw [livesB_len he]; omega) (by omega) (by omega)
      rw [hka] at h9; exact h9)).under (B := [oI bx2 26 [(.int .i64 0), (.int .i64 0), (.slice none 0 0), (.slice none 0 0), (.slice none 0 0)], oI bx1 26 (buCells b sb sc eb ec tb tc), rowI nb2 b.states.toNat 22 1 (vals qs)] ++ itms 3 qs) (O := ([oI bx3 39 [(.slice lb ((livesB b).length) lc)], rowI lb lc 4 1 (bools (livesB b)), oI bx5 39 [(.slice (some ⟨bx4, 0, none⟩) b.states.toNat b.states.toNat)], rowI (some ⟨bx4, 0, none⟩) b.states.toNat 4 1 (bools ka), oI bx6 22 [(.slice tb1 ta.length tc1)], rowI tb1 tc1 3 1 (nats ta), oI bx2 26 [(.int .i64 0), (.int .i64 0), (.slice none 0 0), (.slice none 0 0), (.slice none 0 0)], oI bx1 26 (buCells b sb sc eb ec tb tc), rowI nb2 b.states.toNat 22 1 (vals qs)] ++ (itms 3 qs))) (Sub.of (List.Sublist.refl _)))
    refine TO.loud rfl (l_callG hk46 rfl rfl ?_)
    clear hk46
    rintro vr O' ⟨A1, rfl, tb8, tc8, rfl⟩
    refine TO.nil (T.region ?_)
    refine TO.quiet (q_addN (a := k) (b := 1) rfl rfl (by omega)) (TO.quiet (q_move rfl) ?_)
    refine TO.nil ?_
    exact ⟨k + 1, by omega, _, _, tb8, tc8, rfl, by omega, hsa.root hlt41 hx (by rw [hg.r.l]; exact hxn), ⟨rfl, rfl, rfl, rfl, rfl, rfl, rfl, rfl, rfl, rfl, rfl, rfl, trivial⟩⟩
  have hge41 : ¬ k < b.start.length := by omega
  refine T.exit ?_
  refine T.seq (T.block ?_)
  have hke : k = b.start.length := by omega
  subst hke
  refine T.loop (fun (M : Nat) ρ O => ∃ (ks : List Bool) (todo : List Nat) (tb2 : Option Addr) (tc2 cur jl : Nat), O = ([oI bx3 39 [(.slice lb ((livesB b).length) lc)], rowI lb lc 4 1 (bools (livesB b)), oI bx5 39 [(.slice (some ⟨bx4, 0, none⟩) b.states.toNat b.states.toNat)], rowI (some ⟨bx4, 0, none⟩) b.states.toNat 4 1 (bools ks), oI bx6 22 [(.slice tb2 todo.length tc2)], rowI tb2 tc2 3 1 (nats todo), oI bx2 26 [(.int .i64 0), (.int .i64 0), (.slice none 0 0), (.slice none 0 0), (.slice none 0 0)], oI bx1 26 (buCells b sb sc eb ec tb tc), rowI nb2 b.states.toNat 22 1 (vals qs)] ++ (itms 3 qs)) ∧ SeaP (nums qs) (fun v => (livesB b).getD v false) b.start (fun _ => False) ks todo b.start.length cur jl ∧ (∀ r, (nums qs)[cur]? = some r → r.length ≤ jl) ∧ todo.length + ks.count false = M ∧ Heads [(0, (.agg (buCells b sb sc eb ec tb tc).toArray)), (1, (.pointer (some ⟨bx1, 0, none⟩))), (2, (.pointer (some ⟨bx2, 0, none⟩))), (3, .int .i64 (checkB b : Int)), (4, (.pointer (some ⟨bx3, 0, none⟩))), (5, (.pointer (some ⟨bx5, 0, none⟩))), (6, (.pointer (some ⟨bx6, 0, none⟩))), (7, (.func (.func 77) #[] #[(.pointer (some ⟨bx3, 0, none⟩)), (.pointer (some ⟨bx5, 0, none⟩)), (.pointer (some ⟨bx6, 0, none⟩))])), (8, (.slice nb2 b.states.toNat nc2))] ρ) (fun M => M) (ta.length + ka.count false) ?_ ?_
  · exact ⟨ka, ta, tb1, tc1, (nums qs).length, 0, rfl, hsa, (fun r hr => by rw [List.getElem?_eq_none (Nat.le_refl _)] at hr; cases hr), rfl, ⟨rfl, rfl, rfl, rfl, rfl, rfl, rfl, rfl, rfl, trivial⟩⟩
  rintro M ρ O ⟨ks, todo, tb2, tc2, cur, jl, rfl, hsb, hjl, hM, hH⟩
  obtain ⟨ρ0, rfl⟩ := hH.elim
  clear hH
  have hkb : ks.length = b.states.toNat := by rw [hsb.l, hg.r.l]
  have hmb := hsb.mu
  rw [hg.r.l] at hmb
  refine T.seq (T.seq (T.region ?_))
  refine TO.quiet (q_load_box 4 Try.underlying22 rfl rfl rfl rfl) (TO.quiet (q_len Try.underlying22 rfl) (TO.quiet (q_gtr rfl rfl) ?_))
  refine TO.nil ?_
  refine T.condP rfl (fun hc => ?_) (fun hc => ?_)
  · have hlt50 : todo.length > 0 := by omega
    obtain ⟨u, rest, htd⟩ : ∃ u rest, todo = u :: rest := List.exists_cons_of_length_pos (by omega)
    refine T.skip (T.block (T.seq (T.region ?_)))
    refine TO.quiet (q_load_box 4 Try.underlying22 rfl rfl rfl rfl) (TO.quiet (q_ix (i := 0) Try.underlying22 inf3 rfl rfl (rowO (List.mem_of_getElem? (i := 5) rfl))) (TO.quiet (q_ld Try.underlying3 rfl rfl (rowO (List.mem_of_getElem? (i := 5) rfl)) (show (nats todo)[0]? = some (.int .i64 ((u : Nat) : Int)) by rw [htd]; rfl)) (TO.quiet (q_assign rfl) ?_)))
    refine TO.nil (T.seq (T.region ?_))
    refine TO.quiet (q_load_box 4 Try.underlying22 rfl rfl rfl rfl) ?_
    refine TO.loud rfl (l_tail 5 Try.underlying22 inf3 (by decide) rfl rfl rfl (by simp) (by omega) (fun bx7 => ?_))
    refine TO.loud rfl (l_store_box (v := (.slice bx7 (todo.length - 1) (tc2 - 1))) (vs := [(.slice bx7 (todo.length - 1) (tc2 - 1))]) 4 inf22 rfl rfl rfl rfl rfl rfl (by simp [putL]) ?_)
    refine TO.nil (T.seq ?_)
    refine T.sub (O' := [oI bx3 39 [(.slice lb ((livesB b).length) lc)], rowI lb lc 4 1 (bools (livesB b)), oI bx5 39 [(.slice (some ⟨bx4, 0, none⟩) b.states.toNat b.states.toNat)], rowI (some ⟨bx4, 0, none⟩) b.states.toNat 4 1 (bools ks), oI bx6 22 [(.slice bx7 todo.tail.length (tc2 - 1))], rowI bx7 (tc2 - 1) 3 1 (nats todo.tail), oI bx2 26 [(.int .i64 0), (.int .i64 0), (.slice none 0 0), (.slice none 0 0), (.slice none 0 0)], oI bx1 26 (buCells b sb sc eb ec tb tc), rowI nb2 b.states.toNat 22 1 (vals qs)] ++ itms 3 qs) (by rw [show nats todo.tail = (nats todo).drop 1 by cases todo <;> rfl, List.length_tail]; exact Sub.of (List.Sublist.refl _)) ?_
    have hun : u < b.states.toNat := by have h9 := (hsb.td u (by rw [htd]; simp)).1; rw [hg.r.l] at h9; exact h9
    have hqu : u < qs.length := by omega
    have hqr := hg.r.rl hqu
    have hku : ks.getD u false = true := (hsb.td u (by rw [htd]; simp)).2.elim (fun q => q.elim) id
    have htl : todo.length = todo.tail.length + 1 := by rw [htd]; rfl
    have hp : SeaP (nums qs) (fun v => (livesB b).getD v false) b.start (fun _ => False) ks todo.tail b.start.length u 0 := by
      rw [htd] at hsb ⊢; exact hsb.pop hjl
    refine T.region ?_
    refine TO.quiet (q_move rfl) (TO.quiet (q_move rfl) (TO.quiet (q_ix (i := u) Try.underlying24 inf22 rfl rfl (rowO (List.mem_of_getElem? (i := 8) rfl))) (TO.quiet (q_ld Try.underlying22 rfl rfl (rowO (List.mem_of_getElem? (i := 8) rfl)) (vals_at hqu)) ?_)))
    refine TO.quiet (q_len Try.underlying22 rfl) (TO.quiet (q_move rfl) ?_)
    refine TO.nil (T.block ?_)
    refine T.loop (fun (j : Nat) ρ O => ∃ (k3 : List Bool) (t3 : List Nat) (tb3 : Option Addr) (tc3 : Nat), O = ([oI bx3 39 [(.slice lb ((livesB b).length) lc)], rowI lb lc 4 1 (bools (livesB b)), oI bx5 39 [(.slice (some ⟨bx4, 0, none⟩) b.states.toNat b.states.toNat)], rowI (some ⟨bx4, 0, none⟩) b.states.toNat 4 1 (bools k3), oI bx6 22 [(.slice tb3 t3.length tc3)], rowI tb3 tc3 3 1 (nats t3), oI bx2 26 [(.int .i64 0), (.int .i64 0), (.slice none 0 0), (.slice none 0 0), (.slice none 0 0)], oI bx1 26 (buCells b sb sc eb ec tb tc), rowI nb2 b.states.toNat 22 1 (vals qs)] ++ (itms 3 qs)) ∧ j ≤ qs[u].xs.length ∧ SeaP (nums qs) (fun v => (livesB b).getD v false) b.start (fun _ => False) k3 t3 b.start.length u j ∧ t3.length + k3.count false + 1 = M ∧ k3.getD u false = true ∧ Heads [(0, (.agg (buCells b sb sc eb ec tb tc).toArray)), (1, (.pointer (some ⟨bx1, 0, none⟩))), (2, (.pointer (some ⟨bx2, 0, none⟩))), (3, .int .i64 (checkB b : Int)), (4, (.pointer (some ⟨bx3, 0, none⟩))), (5, (.pointer (some ⟨bx5, 0, none⟩))), (6, (.pointer (some ⟨bx6, 0, none⟩))), (7, (.func (.func 77) #[] #[(.pointer (some ⟨bx3, 0, none⟩)), (.pointer (some ⟨bx5, 0, none⟩)), (.pointer (some ⟨bx6, 0, none⟩))])), (8, (.slice nb2 b.states.toNat nc2)), (11, .int .i64 ((u : Nat) : Int)), (59, (.slice qs[u].b qs[u].xs.length qs[u].c)), (60, .int .i64 (qs[u].xs.length : Int)), (61, .int .i64 (j : Int))] ρ) (fun j => qs[u].xs.length - j) 0 ?_ ?_
    · exact ⟨ks, todo.tail, bx7, tc2 - 1, rfl, Nat.zero_le _, hp, by omega, hku, ⟨rfl, rfl, rfl, rfl, rfl, rfl, rfl, rfl, rfl, rfl, rfl, rfl, rfl, trivial⟩⟩
    rintro j ρ O ⟨k3, t3, tb3, tc3, rfl, hj, hs3, hM3, hk3, hH⟩
    obtain ⟨ρ0, rfl⟩ := hH.elim
    clear hH
    have hkc : k3.length = b.states.toNat := by rw [hs3.l, hg.r.l]
    have hmc := hs3.mu
    rw [hg.r.l] at hmc
    refine T.seq (T.region ?_)
    refine TO.quiet (q_lss rfl rfl) ?_
    refine TO.nil (T.seq ?_)
    refine T.condP rfl (fun hc => ?_) (fun hc => ?_)
    · have hlt62 : j < qs[u].xs.length := by omega
      obtain ⟨y, hy, hyn⟩ : ∃ y : Nat, qs[u].xs[j] = (y : Int) ∧ y < b.states.toNat := by
        have h9 := hg.ok hv qs[u].xs (List.mem_map.2 ⟨_, List.getElem_mem hqu, rfl⟩) _ (List.getElem_mem hlt62)
        rw [hg.r.l] at h9
        exact ⟨qs[u].xs[j].toNat, by omega, by omega⟩
      refine T.skip (T.seq (T.block (T.seq (T.region ?_))))
      refine TO.quiet (q_ix (i := j) Try.underlying22 inf3 rfl rfl (fun w hI => hI.slOf (itms_at (E := 3) hqu))) (TO.quiet (q_ld Try.underlying3 rfl rfl (fun w hI => hI.slOf (itms_at (E := 3) hqu)) (show (ints qs[u].xs)[j]? = _ by rw [ints_get hlt62, hy])) (TO.quiet (q_assign rfl) ?_))
      refine TO.nil (T.region ?_)
      refine TO.quiet (q_move rfl) (TO.quiet (q_move rfl) ?_)
      have hk67 := ((CallV.of_fn (first := []) (args := [.int .i64 ((y : Nat) : Int)]) (caps := [.pointer (some ⟨bx3, 0, none⟩), .pointer (some ⟨bx5, 0, none⟩), .pointer (some ⟨bx6, 0, none⟩)]) ent77 (by
        have h9 := trimVisit w bx3 bx5 bx6 lb (some ⟨bx4, 0, none⟩) tb3 lc lc b.states.toNat b.states.toNat tc3 (livesB b) k3 t3 y (by rw [livesB_len he]; omega) (by omega) (by omega)
        rw [hkc] at h9; exact h9)).under (B := [oI bx2 26 [(.int .i64 0), (.int .i64 0), (.slice none 0 0), (.slice none 0 0), (.slice none 0 0)], oI bx1 26 (buCells b sb sc eb ec tb tc), rowI nb2 b.states.toNat 22 1 (vals qs)] ++ itms 3 qs) (O := ([oI bx3 39 [(.slice lb ((livesB b).length) lc)], rowI lb lc 4 1 (bools (livesB b)), oI bx5 39 [(.slice (some ⟨bx4, 0, none⟩) b.states.toNat b.states.toNat)], rowI (some ⟨bx4, 0, none⟩) b.states.toNat 4 1 (bools k3), oI bx6 22 [(.slice tb3 t3.length tc3)], rowI tb3 tc3 3 1 (nats t3), oI bx2 26 [(.int .i64 0), (.int .i64 0), (.slice none 0 0), (.slice none 0 0), (.slice none 0 0)], oI bx1 26 (buCells b sb sc eb ec tb tc), rowI nb2 b.states.toNat 22 1 (vals qs)] ++ (itms 3 qs))) (Sub.of (List.Sublist.refl _)))
      refine TO.loud rfl (l_callG hk67 rfl rfl ?_)
      clear hk67
      rintro vr O' ⟨A1, rfl, tb7, tc7, rfl⟩
      refine TO.nil (T.region ?_)
      refine TO.quiet (q_addN (a := j) (b := 1) rfl rfl (by omega)) (TO.quiet (q_move rfl) ?_)
      refine TO.nil ?_
      have hed3 := hs3.edge (by rw [hg.r.l]; omega) (.inr hk3) (by rw [nums_at hqu]; exact hlt62) (by simp only [nums_at hqu]; exact hy) (by rw [hg.r.l]; exact hyn)
      exact ⟨j + 1, by omega, _, _, tb7, tc7, rfl, by omega, hed3.1, by have := hed3.2; omega, SeaP.edge_mono _ hk3, ⟨rfl, rfl, rfl, rfl, rfl, rfl, rfl, rfl, rfl, rfl, rfl, rfl, rfl, trivial⟩⟩
    have hge62 : ¬ j < qs[u].xs.length := by omega
    refine T.exit ?_
    exact ⟨M - 1, by omega, k3, t3, tb3, tc3, u, j, rfl, hs3, (fun r hr => by
      have h9 : (nums qs)[u]? = some qs[u].xs := by simp [nums, hqu]
      rw [h9] at hr; cases hr; omega), by omega, ⟨rfl, rfl, rfl, rfl, rfl, rfl, rfl, rfl, rfl, trivial⟩⟩
  have hge50 : ¬ todo.length > 0 := by omega
  refine T.exit ?_
  refine T.seq (T.region ?_)
  refine TO.quiet (q_fieldAddr Try.underlying26 rfl inf3 rfl rfl) (TO.quiet (QT.cast (q_load_box 7 Try.underlying3 rfl rfl rfl rfl) (v' := .int .i64 ((b.states.toNat : Nat) : Int)) (by show Value.int _ b.states = _; rw [Int.toNat_of_nonneg hv0])) ?_)
  refine TO.loud rfl (l_makeSlice (m := b.states.toNat) Try.underlying22 inf3 rfl rfl (by omega) (by omega) (fun bx8 => ?_))
  refine TO.loud rfl (l_alloc inf22 rfl (fun bx9 => ?_))
  refine TO.loud rfl (l_store_box (v := (.slice (some ⟨bx8, 0, none⟩) b.states.toNat b.states.toNat)) (vs := [(.slice (some ⟨bx8, 0, none⟩) b.states.toNat b.states.toNat)]) 0 inf22 rfl rfl rfl rfl rfl rfl (by simp [putL]) ?_)
  refine TO.nil (T.seq (T.seq (T.region ?_)))
  refine TO.quiet (q_load_box 0 Try.underlying22 rfl rfl rfl rfl) (TO.quiet (q_len Try.underlying22 rfl) (TO.quiet (q_move rfl) ?_))
  refine TO.nil (T.block ?_)
  refine T.sub (O' := [oI bx5 39 [(.slice (some ⟨bx4, 0, none⟩) b.states.toNat b.states.toNat)], rowI (some ⟨bx4, 0, none⟩) b.states.toNat 4 1 (bools ks), oI bx9 22 [(.slice (some ⟨bx8, 0, none⟩) b.states.toNat b.states.toNat)], rowI (some ⟨bx8, 0, none⟩) b.states.toNat 3 1 (List.replicate b.states.toNat (.int .i64 0)), oI bx2 26 [(.int .i64 0), (.int .i64 0), (.slice none 0 0), (.slice none 0 0), (.slice none 0 0)], oI bx1 26 (buCells b sb sc eb ec tb tc)]) (Sub.pick0 [4, 4, 0, 0, 4, 4] [oI bx9 22 [(.slice (some ⟨bx8, 0, none⟩) b.states.toNat b.states.toNat)], rowI (some ⟨bx8, 0, none⟩) b.states.toNat 3 1 (List.replicate b.states.toNat (.int .i64 0)), oI bx3 39 [(.slice lb ((livesB b).length) lc)], rowI lb lc 4 1 (bools (livesB b)), oI bx5 39 [(.slice (some ⟨bx4, 0, none⟩) b.states.toNat b.states.toNat)], rowI (some ⟨bx4, 0, none⟩) b.states.toNat 4 1 (bools ks), oI bx6 22 [(.slice tb2 todo.length tc2)], rowI tb2 tc2 3 1 (nats todo), oI bx2 26 [(.int .i64 0), (.int .i64 0), (.slice none 0 0), (.slice none 0 0), (.slice none 0 0)], oI bx1 26 (buCells b sb sc eb ec tb tc), rowI nb2 b.states.toNat 22 1 (vals qs)] (itms 3 qs) rfl rfl) ?_
  have htn : todo = [] := List.eq_nil_of_length_eq_zero (by omega)
  have hkeep : ks = keepB b := keepB_of hkb (fun v hv9 => ((show SeaP (nums qs) (fun v => (livesB b).getD v false) b.start (fun _ => False) ks [] b.start.length cur jl by rw [← htn]; exact hsb).done (hg.ok hv) (Nat.le_refl _) hjl v).trans (keep_live he hv hg hv9))
  refine T.loop (fun (k4 : Nat) ρ O => ∃ (ns : List Nat), O = [oI bx5 39 [(.slice (some ⟨bx4, 0, none⟩) b.states.toNat b.states.toNat)], rowI (some ⟨bx4, 0, none⟩) b.states.toNat 4 1 (bools ks), oI bx9 22 [(.slice (some ⟨bx8, 0, none⟩) b.states.toNat b.states.toNat)], rowI (some ⟨bx8, 0, none⟩) b.states.toNat 3 1 (nats ns), oI bx2 26 [(.int .i64 0), (.int .i64 ((cntK ks k4 : Nat) : Int)), (.slice none 0 0), (.slice none 0 0), (.slice none 0 0)], oI bx1 26 (buCells b sb sc eb ec tb tc)] ∧ k4 ≤ b.states.toNat ∧ NumP ks k4 ns ∧ Heads [(0, (.agg (buCells b sb sc eb ec tb tc).toArray)), (1, (.pointer (some ⟨bx1, 0, none⟩))), (2, (.pointer (some ⟨bx2, 0, none⟩))), (3, .int .i64 (checkB b : Int)), (4, (.pointer (some ⟨bx3, 0, none⟩))), (5, (.pointer (some ⟨bx5, 0, none⟩))), (6, (.pointer (some ⟨bx6, 0, none⟩))), (7, (.func (.func 77) #[] #[(.pointer (some ⟨bx3, 0, none⟩)), (.pointer (some ⟨bx5, 0, none⟩)), (.pointer (some ⟨bx6, 0, none⟩))])), (8, (.slice nb2 b.states.toNat nc2)), (14, (.pointer (some ⟨bx9, 0, none⟩))), (73, .int .i64 (b.states.toNat : Int)), (74, .int .i64 (k4 : Int))] ρ) (fun k4 => b.states.toNat - k4) 0 ?_ ?_
  · exact ⟨List.replicate b.states.toNat 0, by simp only [List.map_replicate]; rfl, Nat.zero_le _, (by rw [← hkb]; exact NumP.start ks), ⟨rfl, rfl, rfl, rfl, rfl, rfl, rfl, rfl, rfl, rfl, rfl, rfl, trivial⟩⟩
  rintro k4 ρ O ⟨ns, rfl, hk4, hN, hH⟩
  obtain ⟨ρ0, rfl⟩ := hH.elim
  clear hH
  have hnl : ns.length = b.states.toNat := by rw [hN.l, hkb]
  have hcl := cntK_le ks k4
  refine T.seq (T.region ?_)
  refine TO.quiet (q_lss rfl rfl) ?_
  refine TO.nil (T.seq ?_)
  refine T.condP rfl (fun hc => ?_) (fun hc => ?_)
  · have hlt75 : k4 < b.states.toNat := by omega
    refine T.skip (T.seq (T.block (T.seq (T.region ?_))))
    refine TO.quiet (q_move rfl) (TO.quiet (q_assign rfl) ?_)
    refine TO.nil (T.seq (T.region ?_))
    refine TO.quiet (q_load_box 0 Try.underlying39 rfl rfl rfl rfl) (TO.quiet (q_move rfl) (TO.quiet (q_ix (i := k4) Try.underlying39 inf4 rfl rfl (rowO (List.mem_of_getElem? (i := 1) rfl))) (TO.quiet (q_ld Try.underlying4 rfl rfl (rowO (List.mem_of_getElem? (i := 1) rfl)) bools_get) ?_)))
    refine TO.nil ?_
    refine T.cond rfl (fun hc => ?_) (fun hc => ?_)
    · refine T.seq ?_
      refine T.region ?_
      refine TO.quiet (q_load_box 2 Try.underlying22 rfl rfl rfl rfl) (TO.quiet (q_move rfl) (TO.quiet (q_fieldAddr Try.underlying26 rfl inf3 rfl rfl) (TO.quiet (q_load_box 4 Try.underlying3 rfl rfl rfl rfl) ?_)))
      refine TO.quiet (q_ix (i := k4) Try.underlying22 inf3 rfl rfl (rowO (List.mem_of_getElem? (i := 3) rfl))) ?_
      refine TO.loud rfl (l_st (j := k4) (v := (.int .i64 ((cntK ks k4 : Nat) : Int))) (vs := [(.int .i64 ((cntK ks k4 : Nat) : Int))]) (cs := nats ns) 3 inf3 rfl rfl rfl rfl rfl (by simp) rfl (by first | (simp; omega) | (simp_all; omega)) ?_)
      refine TO.sub (O' := [oI bx5 39 [(.slice (some ⟨bx4, 0, none⟩) b.states.toNat b.states.toNat)], rowI (some ⟨bx4, 0, none⟩) b.states.toNat 4 1 (bools ks), oI bx9 22 [(.slice (some ⟨bx8, 0, none⟩) b.states.toNat b.states.toNat)], rowI (some ⟨bx8, 0, none⟩) b.states.toNat 3 1 (nats (ns.set k4 (cntK ks k4))), oI bx2 26 [(.int .i64 0), (.int .i64 ((cntK ks k4 : Nat) : Int)), (.slice none 0 0), (.slice none 0 0), (.slice none 0 0)], oI bx1 26 (buCells b sb sc eb ec tb tc)]) (by rw [show putL (nats ns) k4 [(.int .i64 ((cntK ks k4 : Nat) : Int))] = nats (ns.set k4 (cntK ks k4)) from (by simp [putL])]; exact Sub.of (List.Sublist.refl _)) ?_
      refine TO.nil (T.region ?_)
      refine TO.quiet (q_fieldAddr Try.underlying26 rfl inf3 rfl rfl) (TO.quiet (q_load_box 4 Try.underlying3 rfl rfl rfl rfl) (TO.quiet (q_addN (a := (cntK ks k4)) (b := 1) rfl rfl (by omega)) (TO.quiet (q_fieldAddr Try.underlying26 rfl inf3 rfl rfl) ?_)))
      refine TO.loud rfl (l_store_box (v := .int .i64 (((cntK ks k4) + 1 : Nat) : Int)) (vs := [(.int .i64 (((cntK ks k4) + 1 : Nat) : Int))]) 4 inf3 rfl rfl rfl rfl rfl rfl (by simp [putL]) ?_)
      refine TO.nil (T.region ?_)
      refine TO.quiet (q_addN (a := k4) (b := 1) rfl rfl (by omega)) (TO.quiet (q_move rfl) ?_)
      refine TO.nil ?_
      refine ⟨k4 + 1, by omega, ns.set k4 (cntK ks k4), ?_, by omega, hN.yes (by omega), ⟨rfl, rfl, rfl, rfl, rfl, rfl, rfl, rfl, rfl, rfl, rfl, rfl, trivial⟩⟩
      rw [cntK_succ (by omega), if_pos (by rw [gb (by omega)]; assumption)]; rfl
    refine T.skip (T.region ?_)
    refine TO.quiet (q_addN (a := k4) (b := 1) rfl rfl (by omega)) (TO.quiet (q_move rfl) ?_)
    refine TO.nil ?_
    refine ⟨k4 + 1, by omega, ns, ?_, by omega, hN.no (by rw [gb (by omega)]; simp_all), ⟨rfl, rfl, rfl, rfl, rfl, rfl, rfl, rfl, rfl, rfl, rfl, rfl, trivial⟩⟩
    rw [cntK_succ (by omega), if_neg (by rw [gb (by omega)]; simp_all), Nat.add_zero]
  have hge75 : ¬ k4 < b.states.toNat := by omega
  refine T.exit ?_
  refine T.seq ?_
  have hke4 : k4 = b.states.toNat := by omega
  have hNN : NumP ks ks.length ns := by rw [hkb, ← hke4]; exact hN
  refine T.region ?_
  refine TO.quiet (q_makeFunc) (TO.quiet (q_assign rfl) ?_)
  refine TO.nil (T.seq ?_)
  refine T.draws [oI bx1 26 (buCells b sb sc eb ec tb tc)] [(0, 0), (1, 0), (2, 0), (3, 0), (4, 0), (6, 0), (5, 1), (7, 2), (8, 2), (9, 2)] mixed (by kernel_rfl) (Sub.pick [5] rfl) (fun _ _ _ h => h) ?_
  refine DO.quiet rfl (q_fieldAddr Try.underlying26 rfl inf3 rfl rfl) (DO.quiet rfl (q_load_box 0 Try.underlying3 rfl rfl rfl rfl) (DO.quiet rfl (q_move rfl) (DO.quiet rfl (q_fieldAddr Try.underlying26 rfl inf22 rfl rfl) ?_)))
  refine DO.quiet rfl (q_load_box 0 Try.underlying22 rfl rfl rfl rfl) (DO.quiet rfl (q_fieldAddr Try.underlying26 rfl inf3 rfl rfl) ?_)
  have hk97 := ((CallV.of_fn (first := []) (args := [.slice sb b.start.length sc]) (caps := [.pointer (some ⟨bx5, 0, none⟩), .pointer (some ⟨bx9, 0, none⟩)]) ent78 (by
    have h9 := trimRename w bx5 bx9 (some ⟨bx4, 0, none⟩) (some ⟨bx8, 0, none⟩) sb b.states.toNat b.states.toNat b.states.toNat b.states.toNat sc ks ns b.start hNN h.st (fun x hx => by have := hv.st x hx; omega) (by omega)
    rw [hkb, hnl] at h9; exact h9)).under (B := [oI bx2 26 [(.int .i64 0), (.int .i64 ((cntK ks k4 : Nat) : Int)), (.slice none 0 0), (.slice none 0 0), (.slice none 0 0)], oI bx1 26 (buCells b sb sc eb ec tb tc)]) (O := [oI bx5 39 [(.slice (some ⟨bx4, 0, none⟩) b.states.toNat b.states.toNat)], rowI (some ⟨bx4, 0, none⟩) b.states.toNat 4 1 (bools ks), oI bx9 22 [(.slice (some ⟨bx8, 0, none⟩) b.states.toNat b.states.toNat)], rowI (some ⟨bx8, 0, none⟩) b.states.toNat 3 1 (nats ns), oI bx2 26 [(.int .i64 0), (.int .i64 ((cntK ks k4 : Nat) : Int)), (.slice none 0 0), (.slice none 0 0), (.slice none 0 0)], oI bx1 26 (buCells b sb sc eb ec tb tc)]) (Sub.pick [0, 0, 0, 0, 0, 0] rfl))
  refine DO.loud rfl rfl (l_callG hk97 rfl rfl ?_)
  clear hk97
  rintro vr O' ⟨A1, rfl, rb1, rc1, rfl, rfl⟩
  refine ⟨Sub.pick [6] rfl, ?_⟩
  refine DO.last rfl rfl (l_store_box (v := (.int .i64 b.vars)) (vs := [(.int .i64 b.vars)]) 5 inf3 rfl rfl rfl rfl rfl rfl (by simp [putL]) ?_)
  refine DO.last rfl rfl (LT.of_quiet rfl rfl (q_fieldAddr Try.underlying26 rfl inf22 rfl rfl) ?_)
  refine DO.last rfl rfl (l_store_box (v := (.slice rb1 ((renK ks b.start).length) rc1)) (vs := [(.slice rb1 ((renK ks b.start).length) rc1)]) 5 inf22 rfl rfl rfl rfl rfl rfl (by simp [putL]) ?_)
  refine DO.done ?_
  refine T.seq (T.seq (T.region ?_))
  refine TO.quiet (q_fieldAddr Try.underlying26 rfl inf24 rfl rfl) (TO.quiet (q_load_box 6 Try.underlying24 rfl rfl rfl rfl) (TO.quiet (q_len Try.underlying24 rfl) (TO.quiet (q_move rfl) ?_)))
  refine TO.nil (T.block ?_)
  refine T.nilRow 22 1 ?_
  refine T.sub (O' := [rowI none 0 22 1 [], rowI rb1 rc1 3 1 (ints (renK ks b.start)), oI bx5 39 [(.slice (some ⟨bx4, 0, none⟩) b.states.toNat b.states.toNat)], rowI (some ⟨bx4, 0, none⟩) b.states.toNat 4 1 (bools ks), oI bx9 22 [(.slice (some ⟨bx8, 0, none⟩) b.states.toNat b.states.toNat)], rowI (some ⟨bx8, 0, none⟩) b.states.toNat 3 1 (nats ns), oI bx2 26 [(.int .i64 b.vars), (.int .i64 ((cntK ks k4 : Nat) : Int)), (.slice rb1 ((renK ks b.start).length) rc1), (.slice none 0 0), (.slice none 0 0)], oI bx1 26 (buCells b sb sc eb ec tb tc)] ++ itms 3 []) (Sub.of (List.Sublist.refl _)) ?_
  refine T.loop (fun (k5 : Nat) ρ O => ∃ (q5 : List Rec) (tb5 : Option Addr) (tc5 : Nat), O = ([rowI tb5 tc5 22 1 (vals q5), rowI rb1 rc1 3 1 (ints (renK ks b.start)), oI bx5 39 [(.slice (some ⟨bx4, 0, none⟩) b.states.toNat b.states.toNat)], rowI (some ⟨bx4, 0, none⟩) b.states.toNat 4 1 (bools ks), oI bx9 22 [(.slice (some ⟨bx8, 0, none⟩) b.states.toNat b.states.toNat)], rowI (some ⟨bx8, 0, none⟩) b.states.toNat 3 1 (nats ns), oI bx2 26 [(.int .i64 b.vars), (.int .i64 ((cntK ks k4 : Nat) : Int)), (.slice rb1 ((renK ks b.start).length) rc1), (.slice none 0 0), (.slice tb5 k5 tc5)], oI bx1 26 (buCells b sb sc eb ec tb tc)] ++ (itms 3 q5)) ∧ k5 ≤ b.sets.length ∧ nums q5 = (b.sets.take k5).map (renK ks) ∧ Heads [(0, (.agg (buCells b sb sc eb ec tb tc).toArray)), (1, (.pointer (some ⟨bx1, 0, none⟩))), (2, (.pointer (some ⟨bx2, 0, none⟩))), (3, .int .i64 (checkB b : Int)), (4, (.pointer (some ⟨bx3, 0, none⟩))), (5, (.pointer (some ⟨bx5, 0, none⟩))), (6, (.pointer (some ⟨bx6, 0, none⟩))), (7, (.func (.func 77) #[] #[(.pointer (some ⟨bx3, 0, none⟩)), (.pointer (some ⟨bx5, 0, none⟩)), (.pointer (some ⟨bx6, 0, none⟩))])), (8, (.slice nb2 b.states.toNat nc2)), (14, (.pointer (some ⟨bx9, 0, none⟩))), (16, (.func (.func 78) #[] #[(.pointer (some ⟨bx5, 0, none⟩)), (.pointer (some ⟨bx9, 0, none⟩))])), (101, (.slice tb b.sets.length tc)), (102, .int .i64 (b.sets.length : Int)), (103, .int .i64 (k5 : Int))] ρ) (fun k5 => b.sets.length - k5) 0 ?_ ?_
  · exact ⟨[], none, 0, rfl, Nat.zero_le _, rfl, ⟨rfl, rfl, rfl, rfl, rfl, rfl, rfl, rfl, rfl, rfl, rfl, rfl, rfl, rfl, trivial⟩⟩
  rintro k5 ρ O ⟨q5, tb5, tc5, rfl, hk5, hq5, hH⟩
  obtain ⟨ρ0, rfl⟩ := hH.elim
  clear hH
  have hq5l : q5.length = k5 := by have h9 := congrArg List.length hq5; simp [nums] at h9; omega
  refine T.seq (T.region ?_)
  refine TO.quiet (q_lss rfl rfl) ?_
  refine TO.nil (T.seq ?_)
  refine T.condP rfl (fun hc => ?_) (fun hc => ?_)
  · have hlt104 : k5 < b.sets.length := by omega
    obtain ⟨sbk, sck, g1, s1⟩ := h.rows.get hlt104
    refine T.skip (T.seq (T.block (T.seq (T.region ?_))))
    refine TO.quiet (q_ix (i := k5) Try.underlying24 inf22 rfl rfl (Sl.o h.out) (by first | assumption | omega | (simp; omega) | simp_all) (by rw [h.rows.1]; exact hlt104)) (TO.quiet (q_ld Try.underlying22 rfl rfl (Sl.o h.out) g1) (TO.quiet (q_assign rfl) ?_))
    refine TO.nil ?_
    refine T.draws [oI bx5 39 [(.slice (some ⟨bx4, 0, none⟩) b.states.toNat b.states.toNat)], rowI (some ⟨bx4, 0, none⟩) b.states.toNat 4 1 (bools ks), oI bx9 22 [(.slice (some ⟨bx8, 0, none⟩) b.states.toNat b.states.toNat)], rowI (some ⟨bx8, 0, none⟩) b.states.toNat 3 1 (nats ns), oI bx2 26 [(.int .i64 b.vars), (.int .i64 ((cntK ks k4 : Nat) : Int)), (.slice rb1 ((renK ks b.start).length) rc1), (.slice none 0 0), (.slice tb5 k5 tc5)], oI bx1 26 (buCells b sb sc eb ec tb tc)] [(0, 0), (1, 0), (2, 0), (3, 0), (4, 1), (5, 1), (6, 2), (7, 2), (8, 2)] mixed (by kernel_rfl) (Sub.pick0 [2, 2, 2, 2, 2, 2] [rowI tb5 tc5 22 1 (vals q5), rowI rb1 rc1 3 1 (ints (renK ks b.start)), oI bx5 39 [(.slice (some ⟨bx4, 0, none⟩) b.states.toNat b.states.toNat)], rowI (some ⟨bx4, 0, none⟩) b.states.toNat 4 1 (bools ks), oI bx9 22 [(.slice (some ⟨bx8, 0, none⟩) b.states.toNat b.states.toNat)], rowI (some ⟨bx8, 0, none⟩) b.states.toNat 3 1 (nats ns), oI bx2 26 [(.int .i64 b.vars), (.int .i64 ((cntK ks k4 : Nat) : Int)), (.slice rb1 ((renK ks b.start).length) rc1), (.slice none 0 0), (.slice tb5 k5 tc5)], oI bx1 26 (buCells b sb sc eb ec tb tc)] (itms 3 q5) rfl rfl) (fun _ _ _ h => h) ?_
    refine DO.quiet rfl (q_fieldAddr Try.underlying26 rfl inf24 rfl rfl) (DO.quiet rfl (q_load_box 4 Try.underlying24 rfl rfl rfl rfl) (DO.quiet rfl (q_move rfl) (DO.quiet rfl (q_move rfl) ?_)))
    have hk111 := ((CallV.of_fn (first := []) (args := [.slice sbk b.sets[k5].length sck]) (caps := [.pointer (some ⟨bx5, 0, none⟩), .pointer (some ⟨bx9, 0, none⟩)]) ent78 (by
      have h9 := trimRename w bx5 bx9 (some ⟨bx4, 0, none⟩) (some ⟨bx8, 0, none⟩) sbk b.states.toNat b.states.toNat b.states.toNat b.states.toNat sck ks ns b.sets[k5] hNN s1 (fun x hx => by have := hv.se _ (List.getElem_mem hlt104) x hx; omega) (hB.sr _ (List.getElem_mem hlt104))
      rw [hkb, hnl] at h9; exact h9)).under (B := [rowI tb5 tc5 22 1 (vals q5), rowI rb1 rc1 3 1 (ints (renK ks b.start)), oI bx2 26 [(.int .i64 b.vars), (.int .i64 ((cntK ks k4 : Nat) : Int)), (.slice rb1 ((renK ks b.start).length) rc1), (.slice none 0 0), (.slice tb5 k5 tc5)], oI bx1 26 (buCells b sb sc eb ec tb tc)] ++ (itms 3 q5)) (O := ([rowI tb5 tc5 22 1 (vals q5), rowI rb1 rc1 3 1 (ints (renK ks b.start)), oI bx5 39 [(.slice (some ⟨bx4, 0, none⟩) b.states.toNat b.states.toNat)], rowI (some ⟨bx4, 0, none⟩) b.states.toNat 4 1 (bools ks), oI bx9 22 [(.slice (some ⟨bx8, 0, none⟩) b.states.toNat b.states.toNat)], rowI (some ⟨bx8, 0, none⟩) b.states.toNat 3 1 (nats ns), oI bx2 26 [(.int .i64 b.vars), (.int .i64 ((cntK ks k4 : Nat) : Int)), (.slice rb1 ((renK ks b.start).length) rc1), (.slice none 0 0), (.slice tb5 k5 tc5)], oI bx1 26 (buCells b sb sc eb ec tb tc)] ++ (itms 3 q5))) (Sub.pickR [2, 2, 2, 2, 0, 0, 0, 0] [rowI tb5 tc5 22 1 (vals q5), rowI rb1 rc1 3 1 (ints (renK ks b.start)), oI bx5 39 [(.slice (some ⟨bx4, 0, none⟩) b.states.toNat b.states.toNat)], rowI (some ⟨bx4, 0, none⟩) b.states.toNat 4 1 (bools ks), oI bx9 22 [(.slice (some ⟨bx8, 0, none⟩) b.states.toNat b.states.toNat)], rowI (some ⟨bx8, 0, none⟩) b.states.toNat 3 1 (nats ns), oI bx2 26 [(.int .i64 b.vars), (.int .i64 ((cntK ks k4 : Nat) : Int)), (.slice rb1 ((renK ks b.start).length) rc1), (.slice none 0 0), (.slice tb5 k5 tc5)], oI bx1 26 (buCells b sb sc eb ec tb tc)] (itms 3 q5) rfl rfl))
    refine DO.loud rfl rfl (l_callG hk111 rfl rfl ?_)
    clear hk111
    rintro vr O' ⟨A1, rfl, rb2, rc2, rfl, rfl⟩
    refine ⟨Sub.pick0 [1, 1, 1, 1, 3, 3] [rowI rb2 rc2 3 1 (ints (renK ks b.sets[k5])), oI bx5 39 [(.slice (some ⟨bx4, 0, none⟩) b.states.toNat b.states.toNat)], rowI (some ⟨bx4, 0, none⟩) b.states.toNat 4 1 (bools ks), oI bx9 22 [(.slice (some ⟨bx8, 0, none⟩) b.states.toNat b.states.toNat)], rowI (some ⟨bx8, 0, none⟩) b.states.toNat 3 1 (nats ns), rowI tb5 tc5 22 1 (vals q5), rowI rb1 rc1 3 1 (ints (renK ks b.start)), oI bx2 26 [(.int .i64 b.vars), (.int .i64 ((cntK ks k4 : Nat) : Int)), (.slice rb1 ((renK ks b.start).length) rc1), (.slice none 0 0), (.slice tb5 k5 tc5)], oI bx1 26 (buCells b sb sc eb ec tb tc)] (itms 3 q5) rfl rfl, ?_⟩
    refine DO.loud rfl rfl (l_build1 (v := (.slice rb2 ((renK ks b.sets[k5]).length) rc2)) Try.underlying24 inf22 rfl rfl rfl (fun bx10 => ⟨Sub.pick0 [2, 2, 2, 2, 4, 4] [rowI (some ⟨bx10, 0, none⟩) 1 22 1 [(.slice rb2 ((renK ks b.sets[k5]).length) rc2)], rowI rb2 rc2 3 1 (ints (renK ks b.sets[k5])), oI bx5 39 [(.slice (some ⟨bx4, 0, none⟩) b.states.toNat b.states.toNat)], rowI (some ⟨bx4, 0, none⟩) b.states.toNat 4 1 (bools ks), oI bx9 22 [(.slice (some ⟨bx8, 0, none⟩) b.states.toNat b.states.toNat)], rowI (some ⟨bx8, 0, none⟩) b.states.toNat 3 1 (nats ns), rowI tb5 tc5 22 1 (vals q5), rowI rb1 rc1 3 1 (ints (renK ks b.start)), oI bx2 26 [(.int .i64 b.vars), (.int .i64 ((cntK ks k4 : Nat) : Int)), (.slice rb1 ((renK ks b.start).length) rc1), (.slice none 0 0), (.slice tb5 k5 tc5)], oI bx1 26 (buCells b sb sc eb ec tb tc)] (itms 3 q5) rfl rfl, ?_⟩))
    refine DO.last rfl rfl (l_append 6 Try.underlying24 Try.underlying24 inf22 rfl rfl rfl rfl (by simp [vals]; omega) (by decide) (Src.row (j := 0) rfl (by simp)) (by simp [oneB]) (by omega) (by decide) (by decide) (fun bx11 c12 => ?_))
    refine DO.last rfl rfl (LT.of_quiet rfl rfl (q_fieldAddr Try.underlying26 rfl inf24 rfl rfl) ?_)
    refine DO.last rfl rfl (l_store_box (v := (.slice bx11 (k5 + 1) c12)) (vs := [(.slice bx11 (k5 + 1) c12)]) 8 inf24 rfl rfl rfl rfl rfl rfl (by simp [putL]) ?_)
    refine DO.sub (O' := [rowI rb2 rc2 3 1 (ints (renK ks b.sets[k5])), rowI bx11 c12 22 1 ((vals q5) ++ [(.slice rb2 ((renK ks b.sets[k5]).length) rc2)]), rowI rb1 rc1 3 1 (ints (renK ks b.start)), oI bx5 39 [(.slice (some ⟨bx4, 0, none⟩) b.states.toNat b.states.toNat)], rowI (some ⟨bx4, 0, none⟩) b.states.toNat 4 1 (bools ks), oI bx9 22 [(.slice (some ⟨bx8, 0, none⟩) b.states.toNat b.states.toNat)], rowI (some ⟨bx8, 0, none⟩) b.states.toNat 3 1 (nats ns), oI bx2 26 [(.int .i64 b.vars), (.int .i64 ((cntK ks k4 : Nat) : Int)), (.slice rb1 ((renK ks b.start).length) rc1), (.slice none 0 0), (.slice bx11 (k5 + 1) c12)], oI bx1 26 (buCells b sb sc eb ec tb tc)] ++ itms 3 q5) (Sub.pickR [1, 5, 5, 1, 1, 1, 1, 1, 1] [rowI (some ⟨bx10, 0, none⟩) 1 22 1 [(.slice rb2 ((renK ks b.sets[k5]).length) rc2)], rowI rb2 rc2 3 1 (ints (renK ks b.sets[k5])), oI bx5 39 [(.slice (some ⟨bx4, 0, none⟩) b.states.toNat b.states.toNat)], rowI (some ⟨bx4, 0, none⟩) b.states.toNat 4 1 (bools ks), oI bx9 22 [(.slice (some ⟨bx8, 0, none⟩) b.states.toNat b.states.toNat)], rowI (some ⟨bx8, 0, none⟩) b.states.toNat 3 1 (nats ns), rowI bx11 c12 22 1 ((vals q5) ++ [(.slice rb2 ((renK ks b.sets[k5]).length) rc2)]), rowI rb1 rc1 3 1 (ints (renK ks b.start)), oI bx2 26 [(.int .i64 b.vars), (.int .i64 ((cntK ks k4 : Nat) : Int)), (.slice rb1 ((renK ks b.start).length) rc1), (.slice none 0 0), (.slice bx11 (k5 + 1) c12)], oI bx1 26 (buCells b sb sc eb ec tb tc)] (itms 3 q5) rfl rfl) ?_
    refine DO.sub (O' := [rowI bx11 c12 22 1 ((vals q5) ++ [(.slice rb2 ((renK ks b.sets[k5]).length) rc2)]), rowI rb1 rc1 3 1 (ints (renK ks b.start)), oI bx5 39 [(.slice (some ⟨bx4, 0, none⟩) b.states.toNat b.states.toNat)], rowI (some ⟨bx4, 0, none⟩) b.states.toNat 4 1 (bools ks), oI bx9 22 [(.slice (some ⟨bx8, 0, none⟩) b.states.toNat b.states.toNat)], rowI (some ⟨bx8, 0, none⟩) b.states.toNat 3 1 (nats ns), oI bx2 26 [(.int .i64 b.vars), (.int .i64 ((cntK ks k4 : Nat) : Int)), (.slice rb1 ((renK ks b.start).length) rc1), (.slice none 0 0), (.slice bx11 (k5 + 1) c12)], oI bx1 26 (buCells b sb sc eb ec tb tc)] ++ itms 3 (q5 ++ [⟨rb2, rc2, renK ks b.sets[k5]⟩])) (Sub.cnt [] (by intro a; simp only [itms, Rec.itm, oI, List.set_cons_zero, List.set_cons_succ, putL, List.cons_append, List.nil_append, List.append_nil, List.append_assoc, List.map_append, List.map_cons, List.map_nil, cnt_append, cnt_cons, cnt_nil, buCells, laCells] <;> omega)) ?_
    refine DO.done ?_
    refine T.region ?_
    refine TO.quiet (q_addN (a := k5) (b := 1) rfl rfl (by omega)) (TO.quiet (q_move rfl) ?_)
    refine TO.nil ?_
    exact ⟨k5 + 1, by omega, q5 ++ [⟨rb2, rc2, renK ks b.sets[k5]⟩], bx11, c12, (by simp only [vals, List.map_append, List.map_cons, List.map_nil]; rfl), by omega, (by rw [List.take_succ_eq_append_getElem hlt104, List.map_append, ← hq5]; simp [nums]), ⟨rfl, rfl, rfl, rfl, rfl, rfl, rfl, rfl, rfl, rfl, rfl, rfl, rfl, rfl, trivial⟩⟩
  have hge104 : ¬ k5 < b.sets.length := by omega
  refine T.exit ?_
  refine T.seq (T.seq (T.region ?_))
  refine TO.quiet (q_fieldAddr Try.underlying26 rfl inf23 rfl rfl) (TO.quiet (q_load_box 7 Try.underlying23 rfl rfl rfl rfl) (TO.quiet (q_len Try.underlying23 rfl) (TO.quiet (q_move rfl) ?_)))
  refine TO.nil (T.block ?_)
  refine T.nilRow 54 4 ?_
  refine T.loopS (fun (k6 : Nat) ρ O => ∃ (eb6 : Option Addr) (ec6 : Nat), O = ([rowI eb6 ec6 54 4 (edsC (edK ks (b.edges.take k6))), rowI tb5 tc5 22 1 (vals q5), rowI rb1 rc1 3 1 (ints (renK ks b.start)), oI bx5 39 [(.slice (some ⟨bx4, 0, none⟩) b.states.toNat b.states.toNat)], rowI (some ⟨bx4, 0, none⟩) b.states.toNat 4 1 (bools ks), oI bx9 22 [(.slice (some ⟨bx8, 0, none⟩) b.states.toNat b.states.toNat)], rowI (some ⟨bx8, 0, none⟩) b.states.toNat 3 1 (nats ns), oI bx2 26 [(.int .i64 b.vars), (.int .i64 ((cntK ks k4 : Nat) : Int)), (.slice rb1 ((renK ks b.start).length) rc1), (.slice eb6 ((edK ks (b.edges.take k6)).length) ec6), (.slice tb5 k5 tc5)], oI bx1 26 (buCells b sb sc eb ec tb tc)] ++ (itms 3 q5)) ∧ k6 ≤ b.edges.length ∧ Heads [(0, (.agg (buCells b sb sc eb ec tb tc).toArray)), (1, (.pointer (some ⟨bx1, 0, none⟩))), (2, (.pointer (some ⟨bx2, 0, none⟩))), (3, .int .i64 (checkB b : Int)), (4, (.pointer (some ⟨bx3, 0, none⟩))), (5, (.pointer (some ⟨bx5, 0, none⟩))), (6, (.pointer (some ⟨bx6, 0, none⟩))), (7, (.func (.func 77) #[] #[(.pointer (some ⟨bx3, 0, none⟩)), (.pointer (some ⟨bx5, 0, none⟩)), (.pointer (some ⟨bx6, 0, none⟩))])), (8, (.slice nb2 b.states.toNat nc2)), (14, (.pointer (some ⟨bx9, 0, none⟩))), (16, (.func (.func 78) #[] #[(.pointer (some ⟨bx5, 0, none⟩)), (.pointer (some ⟨bx9, 0, none⟩))])), (117, (.slice eb b.edges.length ec)), (118, .int .i64 (b.edges.length : Int)), (119, .int .i64 (k6 : Int))] ρ) (fun k6 => b.edges.length - k6) 0 ?_ ?_
  · exact ⟨none, 0, rfl, Nat.zero_le _, ⟨rfl, rfl, rfl, rfl, rfl, rfl, rfl, rfl, rfl, rfl, rfl, rfl, rfl, rfl, trivial⟩⟩
  rintro k6 ρ O ⟨eb6, ec6, rfl, hk6, hH⟩
  obtain ⟨ρ0, rfl⟩ := hH.elim
  clear hH
  refine T.seq (T.region ?_)
  refine TO.quiet (q_lss rfl rfl) ?_
  refine TO.nil (T.seq ?_)
  refine T.condP rfl (fun hc => ?_) (fun hc => ?_)
  · have hlt120 : k6 < b.edges.length := by omega
    obtain ⟨u1, hu1, hu1n⟩ : ∃ u : Nat, b.edges[k6].fr = (u : Int) ∧ u < b.states.toNat := by
      have := (hv.ed _ (List.getElem_mem hlt120)).1
      exact ⟨b.edges[k6].fr.toNat, by omega, by omega⟩
    obtain ⟨u2, hu2, hu2n⟩ : ∃ u : Nat, b.edges[k6].to = (u : Int) ∧ u < b.states.toNat := by
      have := (hv.ed _ (List.getElem_mem hlt120)).2
      exact ⟨b.edges[k6].to.toNat, by omega, by omega⟩
    have hel := edK_lenT ks b.edges k6
    refine T.skip (T.seq (T.block (T.seq (T.region ?_))))
    refine TO.quiet (q_ixK (i := k6) Try.underlying23 inf54 rfl rfl (Sl.o h.ed) (by first | assumption | omega | (simp; omega) | simp_all) (by first | (rw [eds_len]; omega) | (simp [eds_len]; omega) | (simp_all [eds_len]; omega))) (TO.quiet (q_ldK (vs := [.int .i64 b.edges[k6].fr, .int .i64 b.edges[k6].to, .int .u8 ((b.edges[k6].pos : Nat) : Int), .int .u8 ((b.edges[k6].neg : Nat) : Int)]) Try.underlying54 rfl inf54 rfl rfl (Nat.succ_pos _) (Sl.o h.ed) (eds_get (by first | assumption | omega | (simp; omega) | simp_all))) ?_)
    refine TO.loud rfl (l_alloc inf54 rfl (fun bx13 => ?_))
    refine TO.loud rfl (l_store_box (v := (.agg #[.int .i64 b.edges[k6].fr, .int .i64 b.edges[k6].to, .int .u8 ((b.edges[k6].pos : Nat) : Int), .int .u8 ((b.edges[k6].neg : Nat) : Int)])) (vs := [.int .i64 b.edges[k6].fr, .int .i64 b.edges[k6].to, .int .u8 ((b.edges[k6].pos : Nat) : Int), .int .u8 ((b.edges[k6].neg : Nat) : Int)]) 0 inf54 rfl rfl rfl rfl rfl rfl (by simp [putL]) ?_)
    refine TO.nil (T.seq (T.region ?_))
    refine TO.quiet (q_load_box 4 Try.underlying39 rfl rfl rfl rfl) (TO.quiet (q_fieldAddr Try.underlying54 rfl inf3 rfl rfl) (TO.quiet (QT.cast (q_load_box 0 Try.underlying3 rfl rfl rfl rfl) (v' := .int .i64 ((u1 : Nat) : Int)) (by show Value.int _ _ = _; rw [hu1])) (TO.quiet (q_ix (i := u1) Try.underlying39 inf4 rfl rfl (rowO (List.mem_of_getElem? (i := 5) rfl))) ?_)))
    refine TO.quiet (q_ld Try.underlying4 rfl rfl (rowO (List.mem_of_getElem? (i := 5) rfl)) bools_get) ?_
    by_cases hs128 : ks[u1] = true
    · refine TO.quiet (QT.toB (q_move rfl) (hs128)) ?_
      refine TO.guarded rfl rfl rfl (LT.of_quiet rfl rfl (q_load_box 4 Try.underlying39 rfl rfl rfl rfl) ?_)
      refine TO.guarded rfl rfl rfl (LT.of_quiet rfl rfl (q_fieldAddr Try.underlying54 rfl inf3 rfl rfl) ?_)
      refine TO.guarded rfl rfl rfl (LT.of_quiet rfl rfl (QT.cast (q_load_box 0 Try.underlying3 rfl rfl rfl rfl) (v' := .int .i64 ((u2 : Nat) : Int)) (by show Value.int _ _ = _; rw [hu2])) ?_)
      refine TO.guarded rfl rfl rfl (LT.of_quiet rfl rfl (q_ix (i := u2) Try.underlying39 inf4 rfl rfl (rowO (List.mem_of_getElem? (i := 5) rfl))) ?_)
      refine TO.guarded rfl rfl rfl (LT.of_quiet rfl rfl (q_ld Try.underlying4 rfl rfl (rowO (List.mem_of_getElem? (i := 5) rfl)) bools_get) ?_)
      refine TO.quiet (q_pick1 rfl rfl) ?_
      refine TO.nil ?_
      refine T.cond rfl (fun hc => ?_) (fun hc => ?_)
      · have hy1 : ks.getD b.edges[k6].fr.toNat false = true := by rw [hu1, Int.toNat_natCast, gb (by omega)]; assumption
        have hy2 : ks.getD b.edges[k6].to.toNat false = true := by rw [hu2, Int.toNat_natCast, gb (by omega)]; simp_all
        refine T.draws [oI bx13 54 [.int .i64 b.edges[k6].fr, .int .i64 b.edges[k6].to, .int .u8 ((b.edges[k6].pos : Nat) : Int), .int .u8 ((b.edges[k6].neg : Nat) : Int)], oI bx5 39 [(.slice (some ⟨bx4, 0, none⟩) b.states.toNat b.states.toNat)], rowI (some ⟨bx4, 0, none⟩) b.states.toNat 4 1 (bools ks), oI bx9 22 [(.slice (some ⟨bx8, 0, none⟩) b.states.toNat b.states.toNat)], rowI (some ⟨bx8, 0, none⟩) b.states.toNat 3 1 (nats ns), oI bx2 26 [(.int .i64 b.vars), (.int .i64 ((cntK ks k4 : Nat) : Int)), (.slice rb1 ((renK ks b.start).length) rc1), (.slice eb6 ((edK ks (b.edges.take k6)).length) ec6), (.slice tb5 k5 tc5)], oI bx1 26 (buCells b sb sc eb ec tb tc)] [(0, 0), (1, 0), (2, 0), (3, 0), (4, 0), (5, 0), (6, 0), (7, 0), (8, 0), (9, 0), (10, 0), (11, 0), (12, 0), (13, 0), (14, 0), (15, 0), (16, 0), (17, 1), (18, 2), (19, 2), (20, 2)] mixed (by kernel_rfl) (Sub.pick0 [0, 3, 3, 3, 3, 3, 3] [oI bx13 54 [.int .i64 b.edges[k6].fr, .int .i64 b.edges[k6].to, .int .u8 ((b.edges[k6].pos : Nat) : Int), .int .u8 ((b.edges[k6].neg : Nat) : Int)], rowI eb6 ec6 54 4 (edsC (edK ks (b.edges.take k6))), rowI tb5 tc5 22 1 (vals q5), rowI rb1 rc1 3 1 (ints (renK ks b.start)), oI bx5 39 [(.slice (some ⟨bx4, 0, none⟩) b.states.toNat b.states.toNat)], rowI (some ⟨bx4, 0, none⟩) b.states.toNat 4 1 (bools ks), oI bx9 22 [(.slice (some ⟨bx8, 0, none⟩) b.states.toNat b.states.toNat)], rowI (some ⟨bx8, 0, none⟩) b.states.toNat 3 1 (nats ns), oI bx2 26 [(.int .i64 b.vars), (.int .i64 ((cntK ks k4 : Nat) : Int)), (.slice rb1 ((renK ks b.start).length) rc1), (.slice eb6 ((edK ks (b.edges.take k6)).length) ec6), (.slice tb5 k5 tc5)], oI bx1 26 (buCells b sb sc eb ec tb tc)] (itms 3 q5) rfl rfl) (fun _ _ _ h => h) ?_
        refine DO.quiet rfl (q_fieldAddr Try.underlying26 rfl inf23 rfl rfl) (DO.quiet rfl (q_load_box 5 Try.underlying23 rfl rfl rfl rfl) (DO.quiet rfl (q_load_box 3 Try.underlying22 rfl rfl rfl rfl) (DO.quiet rfl (q_fieldAddr Try.underlying54 rfl inf3 rfl rfl) ?_)))
        refine DO.quiet rfl (QT.cast (q_load_box 0 Try.underlying3 rfl rfl rfl rfl) (v' := .int .i64 ((u1 : Nat) : Int)) (by show Value.int _ _ = _; rw [hu1])) (DO.quiet rfl (q_ix (i := u1) Try.underlying22 inf3 rfl rfl (rowO (List.mem_of_getElem? (i := 4) rfl))) (DO.quiet rfl (q_ld Try.underlying3 rfl rfl (rowO (List.mem_of_getElem? (i := 4) rfl)) (show (nats ns)[u1]? = some (.int .i64 ((cntK ks u1 : Nat) : Int)) by rw [nats_get (by omega), hNN.get (by omega) (by rw [gb (by omega)]; assumption)])) (DO.quiet rfl (q_load_box 3 Try.underlying22 rfl rfl rfl rfl) ?_)))
        refine DO.quiet rfl (q_fieldAddr Try.underlying54 rfl inf3 rfl rfl) (DO.quiet rfl (QT.cast (q_load_box 0 Try.underlying3 rfl rfl rfl rfl) (v' := .int .i64 ((u2 : Nat) : Int)) (by show Value.int _ _ = _; rw [hu2])) (DO.quiet rfl (q_ix (i := u2) Try.underlying22 inf3 rfl rfl (rowO (List.mem_of_getElem? (i := 4) rfl))) (DO.quiet rfl (q_ld Try.underlying3 rfl rfl (rowO (List.mem_of_getElem? (i := 4) rfl)) (show (nats ns)[u2]? = some (.int .i64 ((cntK ks u2 : Nat) : Int)) by rw [nats_get (by omega), hNN.get (by omega) (by rw [gb (by omega)]; simp_all)])) ?_)))
        refine DO.quiet rfl (q_fieldAddr Try.underlying54 rfl inf5 rfl rfl) (DO.quiet rfl (q_load_box 0 Try.underlying5 rfl rfl rfl rfl) (DO.quiet rfl (q_fieldAddr Try.underlying54 rfl inf5 rfl rfl) (DO.quiet rfl (q_load_box 0 Try.underlying5 rfl rfl rfl rfl) ?_)))
        refine DO.quiet rfl (q_build (cs := [.int .i64 ((cntK ks u1 : Nat) : Int), .int .i64 ((cntK ks u2 : Nat) : Int), .int .u8 ((b.edges[k6].pos : Nat) : Int), .int .u8 ((b.edges[k6].neg : Nat) : Int)]) plan54 inf54 (by kernel_rfl)) ?_
        refine DO.loud rfl rfl (l_buildSlice (m := 1) (parts := [(0, _)]) (cs := [.int .i64 ((cntK ks u1 : Nat) : Int), .int .i64 ((cntK ks u2 : Nat) : Int), .int .u8 ((b.edges[k6].pos : Nat) : Int), .int .u8 ((b.edges[k6].neg : Nat) : Int)]) Try.underlying23 inf54 (by decide) (by kernel_rfl) rfl (fun bx14 => ⟨Sub.pick0 [1, 4, 4, 4, 4, 4, 4] [rowI (some ⟨bx14, 0, none⟩) 1 54 4 [.int .i64 ((cntK ks u1 : Nat) : Int), .int .i64 ((cntK ks u2 : Nat) : Int), .int .u8 ((b.edges[k6].pos : Nat) : Int), .int .u8 ((b.edges[k6].neg : Nat) : Int)], oI bx13 54 [.int .i64 b.edges[k6].fr, .int .i64 b.edges[k6].to, .int .u8 ((b.edges[k6].pos : Nat) : Int), .int .u8 ((b.edges[k6].neg : Nat) : Int)], rowI eb6 ec6 54 4 (edsC (edK ks (b.edges.take k6))), rowI tb5 tc5 22 1 (vals q5), rowI rb1 rc1 3 1 (ints (renK ks b.start)), oI bx5 39 [(.slice (some ⟨bx4, 0, none⟩) b.states.toNat b.states.toNat)], rowI (some ⟨bx4, 0, none⟩) b.states.toNat 4 1 (bools ks), oI bx9 22 [(.slice (some ⟨bx8, 0, none⟩) b.states.toNat b.states.toNat)], rowI (some ⟨bx8, 0, none⟩) b.states.toNat 3 1 (nats ns), oI bx2 26 [(.int .i64 b.vars), (.int .i64 ((cntK ks k4 : Nat) : Int)), (.slice rb1 ((renK ks b.start).length) rc1), (.slice eb6 ((edK ks (b.edges.take k6)).length) ec6), (.slice tb5 k5 tc5)], oI bx1 26 (buCells b sb sc eb ec tb tc)] (itms 3 q5) rfl rfl, ?_⟩))
        refine DO.last rfl rfl (l_append 2 Try.underlying23 Try.underlying23 inf54 rfl rfl rfl rfl (by rw [eds_len]) (by decide) (Src.row (j := 0) rfl (by simp)) (by simp [oneB]) (by omega) (by decide) (by decide) (fun bx15 c16 => ?_))
        refine DO.last rfl rfl (LT.of_quiet rfl rfl (q_fieldAddr Try.underlying26 rfl inf23 rfl rfl) ?_)
        refine DO.last rfl rfl (l_store_box (v := (.slice bx15 (((edK ks (b.edges.take k6)).length) + 1) c16)) (vs := [(.slice bx15 (((edK ks (b.edges.take k6)).length) + 1) c16)]) 9 inf23 rfl rfl rfl rfl rfl rfl (by simp [putL]) ?_)
        
        refine DO.done ?_
        refine T.region ?_
        refine TO.quiet (q_addN (a := k6) (b := 1) rfl rfl (by omega)) (TO.quiet (q_move rfl) ?_)
        refine TO.nil ?_
        refine ⟨k6 + 1, by omega, ([rowI bx15 c16 54 4 ((edsC (edK ks (b.edges.take k6))) ++ [.int .i64 ((cntK ks u1 : Nat) : Int), .int .i64 ((cntK ks u2 : Nat) : Int), .int .u8 ((b.edges[k6].pos : Nat) : Int), .int .u8 ((b.edges[k6].neg : Nat) : Int)]), rowI tb5 tc5 22 1 (vals q5), rowI rb1 rc1 3 1 (ints (renK ks b.start)), oI bx5 39 [(.slice (some ⟨bx4, 0, none⟩) b.states.toNat b.states.toNat)], rowI (some ⟨bx4, 0, none⟩) b.states.toNat 4 1 (bools ks), oI bx9 22 [(.slice (some ⟨bx8, 0, none⟩) b.states.toNat b.states.toNat)], rowI (some ⟨bx8, 0, none⟩) b.states.toNat 3 1 (nats ns), oI bx2 26 [(.int .i64 b.vars), (.int .i64 ((cntK ks k4 : Nat) : Int)), (.slice rb1 ((renK ks b.start).length) rc1), (.slice bx15 (((edK ks (b.edges.take k6)).length) + 1) c16), (.slice tb5 k5 tc5)], oI bx1 26 (buCells b sb sc eb ec tb tc)] ++ (itms 3 q5)), (Sub.pickR [2, 2, 2, 2, 2, 2, 2, 2, 2] [rowI (some ⟨bx14, 0, none⟩) 1 54 4 [.int .i64 ((cntK ks u1 : Nat) : Int), .int .i64 ((cntK ks u2 : Nat) : Int), .int .u8 ((b.edges[k6].pos : Nat) : Int), .int .u8 ((b.edges[k6].neg : Nat) : Int)], oI bx13 54 [.int .i64 b.edges[k6].fr, .int .i64 b.edges[k6].to, .int .u8 ((b.edges[k6].pos : Nat) : Int), .int .u8 ((b.edges[k6].neg : Nat) : Int)], rowI bx15 c16 54 4 ((edsC (edK ks (b.edges.take k6))) ++ [.int .i64 ((cntK ks u1 : Nat) : Int), .int .i64 ((cntK ks u2 : Nat) : Int), .int .u8 ((b.edges[k6].pos : Nat) : Int), .int .u8 ((b.edges[k6].neg : Nat) : Int)]), rowI tb5 tc5 22 1 (vals q5), rowI rb1 rc1 3 1 (ints (renK ks b.start)), oI bx5 39 [(.slice (some ⟨bx4, 0, none⟩) b.states.toNat b.states.toNat)], rowI (some ⟨bx4, 0, none⟩) b.states.toNat 4 1 (bools ks), oI bx9 22 [(.slice (some ⟨bx8, 0, none⟩) b.states.toNat b.states.toNat)], rowI (some ⟨bx8, 0, none⟩) b.states.toNat 3 1 (nats ns), oI bx2 26 [(.int .i64 b.vars), (.int .i64 ((cntK ks k4 : Nat) : Int)), (.slice rb1 ((renK ks b.start).length) rc1), (.slice bx15 (((edK ks (b.edges.take k6)).length) + 1) c16), (.slice tb5 k5 tc5)], oI bx1 26 (buCells b sb sc eb ec tb tc)] (itms 3 q5) rfl rfl), bx15, c16, ?_, by omega, ⟨rfl, rfl, rfl, rfl, rfl, rfl, rfl, rfl, rfl, rfl, rfl, rfl, rfl, rfl, trivial⟩⟩
        rw [edK_yes hlt120 hy1 hy2, eds_append, List.length_append]; simp only [renE, hu1, hu2, Int.toNat_natCast]; rfl
      refine T.skip (T.region ?_)
      refine TO.quiet (q_addN (a := k6) (b := 1) rfl rfl (by omega)) (TO.quiet (q_move rfl) ?_)
      refine TO.nil ?_
      refine ⟨k6 + 1, by omega, ([rowI eb6 ec6 54 4 (edsC (edK ks (b.edges.take k6))), rowI tb5 tc5 22 1 (vals q5), rowI rb1 rc1 3 1 (ints (renK ks b.start)), oI bx5 39 [(.slice (some ⟨bx4, 0, none⟩) b.states.toNat b.states.toNat)], rowI (some ⟨bx4, 0, none⟩) b.states.toNat 4 1 (bools ks), oI bx9 22 [(.slice (some ⟨bx8, 0, none⟩) b.states.toNat b.states.toNat)], rowI (some ⟨bx8, 0, none⟩) b.states.toNat 3 1 (nats ns), oI bx2 26 [(.int .i64 b.vars), (.int .i64 ((cntK ks k4 : Nat) : Int)), (.slice rb1 ((renK ks b.start).length) rc1), (.slice eb6 ((edK ks (b.edges.take k6)).length) ec6), (.slice tb5 k5 tc5)], oI bx1 26 (buCells b sb sc eb ec tb tc)] ++ (itms 3 q5)), (Sub.pickR [1, 1, 1, 1, 1, 1, 1, 1, 1] [oI bx13 54 [.int .i64 b.edges[k6].fr, .int .i64 b.edges[k6].to, .int .u8 ((b.edges[k6].pos : Nat) : Int), .int .u8 ((b.edges[k6].neg : Nat) : Int)], rowI eb6 ec6 54 4 (edsC (edK ks (b.edges.take k6))), rowI tb5 tc5 22 1 (vals q5), rowI rb1 rc1 3 1 (ints (renK ks b.start)), oI bx5 39 [(.slice (some ⟨bx4, 0, none⟩) b.states.toNat b.states.toNat)], rowI (some ⟨bx4, 0, none⟩) b.states.toNat 4 1 (bools ks), oI bx9 22 [(.slice (some ⟨bx8, 0, none⟩) b.states.toNat b.states.toNat)], rowI (some ⟨bx8, 0, none⟩) b.states.toNat 3 1 (nats ns), oI bx2 26 [(.int .i64 b.vars), (.int .i64 ((cntK ks k4 : Nat) : Int)), (.slice rb1 ((renK ks b.start).length) rc1), (.slice eb6 ((edK ks (b.edges.take k6)).length) ec6), (.slice tb5 k5 tc5)], oI bx1 26 (buCells b sb sc eb ec tb tc)] (itms 3 q5) rfl rfl), eb6, ec6, ?_, by omega, ⟨rfl, rfl, rfl, rfl, rfl, rfl, rfl, rfl, rfl, rfl, rfl, rfl, rfl, rfl, trivial⟩⟩
      rw [edK_no hlt120 (by rw [hu1, hu2, Int.toNat_natCast, Int.toNat_natCast, gb (by omega), gb (by omega)]; simp_all)]
    refine TO.quiet (QT.toB (q_move rfl) (Bool.eq_false_iff.2 hs128)) ?_
    refine TO.passed rfl rfl ?_
    refine TO.passed rfl rfl ?_
    refine TO.passed rfl rfl ?_
    refine TO.passed rfl rfl ?_
    refine TO.passed rfl rfl ?_
    refine TO.quiet (q_pick0 rfl rfl) ?_
    refine TO.nil ?_
    refine T.cond0 rfl ?_
    refine T.skip (T.region ?_)
    refine TO.quiet (q_addN (a := k6) (b := 1) rfl rfl (by omega)) (TO.quiet (q_move rfl) ?_)
    refine TO.nil ?_
    refine ⟨k6 + 1, by omega, ([rowI eb6 ec6 54 4 (edsC (edK ks (b.edges.take k6))), rowI tb5 tc5 22 1 (vals q5), rowI rb1 rc1 3 1 (ints (renK ks b.start)), oI bx5 39 [(.slice (some ⟨bx4, 0, none⟩) b.states.toNat b.states.toNat)], rowI (some ⟨bx4, 0, none⟩) b.states.toNat 4 1 (bools ks), oI bx9 22 [(.slice (some ⟨bx8, 0, none⟩) b.states.toNat b.states.toNat)], rowI (some ⟨bx8, 0, none⟩) b.states.toNat 3 1 (nats ns), oI bx2 26 [(.int .i64 b.vars), (.int .i64 ((cntK ks k4 : Nat) : Int)), (.slice rb1 ((renK ks b.start).length) rc1), (.slice eb6 ((edK ks (b.edges.take k6)).length) ec6), (.slice tb5 k5 tc5)], oI bx1 26 (buCells b sb sc eb ec tb tc)] ++ (itms 3 q5)), (Sub.pickR [1, 1, 1, 1, 1, 1, 1, 1, 1] [oI bx13 54 [.int .i64 b.edges[k6].fr, .int .i64 b.edges[k6].to, .int .u8 ((b.edges[k6].pos : Nat) : Int), .int .u8 ((b.edges[k6].neg : Nat) : Int)], rowI eb6 ec6 54 4 (edsC (edK ks (b.edges.take k6))), rowI tb5 tc5 22 1 (vals q5), rowI rb1 rc1 3 1 (ints (renK ks b.start)), oI bx5 39 [(.slice (some ⟨bx4, 0, none⟩) b.states.toNat b.states.toNat)], rowI (some ⟨bx4, 0, none⟩) b.states.toNat 4 1 (bools ks), oI bx9 22 [(.slice (some ⟨bx8, 0, none⟩) b.states.toNat b.states.toNat)], rowI (some ⟨bx8, 0, none⟩) b.states.toNat 3 1 (nats ns), oI bx2 26 [(.int .i64 b.vars), (.int .i64 ((cntK ks k4 : Nat) : Int)), (.slice rb1 ((renK ks b.start).length) rc1), (.slice eb6 ((edK ks (b.edges.take k6)).length) ec6), (.slice tb5 k5 tc5)], oI bx1 26 (buCells b sb sc eb ec tb tc)] (itms 3 q5) rfl rfl), eb6, ec6, ?_, by omega, ⟨rfl, rfl, rfl, rfl, rfl, rfl, rfl, rfl, rfl, rfl, rfl, rfl, rfl, rfl, trivial⟩⟩
    rw [edK_no hlt120 (by rw [hu1, hu2, Int.toNat_natCast, Int.toNat_natCast, gb (by omega), gb (by omega)]; simp_all)]
  have hge120 : ¬ k6 < b.edges.length := by omega
  refine T.exit ?_
  refine T.seq (T.region ?_)
  refine TO.quiet (q_load_boxAgg 7 Try.underlying26 rfl inf26 rfl rfl rfl) ?_
  refine TO.loud rfl (l_store_box (v := (.agg #[(.int .i64 b.vars), (.int .i64 ((cntK ks k4 : Nat) : Int)), (.slice rb1 ((renK ks b.start).length) rc1), (.slice eb6 ((edK ks (b.edges.take k6)).length) ec6), (.slice tb5 k5 tc5)])) (vs := [(.int .i64 b.vars), (.int .i64 ((cntK ks k4 : Nat) : Int)), (.slice rb1 ((renK ks b.start).length) rc1), (.slice eb6 ((edK ks (b.edges.take k6)).length) ec6), (.slice tb5 k5 tc5)]) 7 inf26 rfl rfl rfl rfl rfl rfl (by simp [putL]) ?_)
  refine TO.quiet (q_assign rfl) ?_
  refine TO.nil (T.ret (Res.drop ?_))
  refine Res.cell1b (.int .i64 0) (i := 7) Try.results28 Try.underlying26 rfl inf26 rfl rfl rfl rfl ?_
  have hk5e : k5 = b.sets.length := by omega
  have hk6e : b.edges.take k6 = b.edges := List.take_of_length_le (by omega)
  have hset : nums q5 = b.sets.map (renK ks) := by rw [hq5, hk5e, List.take_length]
  have hct : cntK ks k4 = ks.count true := cntK_all (by omega)
  have htr : trimB b = trimWith b ks := by unfold trimB; rw [if_pos he, hkeep]
  refine ⟨[rowI rb1 rc1 3 1 (ints (renK ks b.start)), rowI eb6 ec6 54 4 (edsC (edK ks (b.edges.take k6))), rowI tb5 tc5 22 1 (vals q5)] ++ itms 3 q5, Sub.cnt [oI bx5 39 [(.slice (some ⟨bx4, 0, none⟩) b.states.toNat b.states.toNat)], rowI (some ⟨bx4, 0, none⟩) b.states.toNat 4 1 (bools ks), oI bx9 22 [(.slice (some ⟨bx8, 0, none⟩) b.states.toNat b.states.toNat)], rowI (some ⟨bx8, 0, none⟩) b.states.toNat 3 1 (nats ns), oI bx2 26 [(.int .i64 b.vars), (.int .i64 ((cntK ks k4 : Nat) : Int)), (.slice rb1 ((renK ks b.start).length) rc1), (.slice eb6 ((edK ks (b.edges.take k6)).length) ec6), (.slice tb5 k5 tc5)], oI bx1 26 (buCells b sb sc eb ec tb tc)] (by intro a; simp only [itms, oI, List.set_cons_zero, List.set_cons_succ, putL, List.cons_append, List.nil_append, List.append_nil, List.append_assoc, List.map_append, List.map_cons, List.map_nil, cnt_append, cnt_cons, cnt_nil, buCells, laCells] <;> omega), rb1, eb6, tb5, rc1, ec6, tc5, q5, ?_, ?_, ?_⟩
  · rw [htr, hct, hk6e, hk5e, he]; simp [trimWith, putL, buCells]
  · rw [htr, hk6e]; rfl
  · rw [htr]; exact hset
end Go.Proofs.Ytnamoapbienooaa


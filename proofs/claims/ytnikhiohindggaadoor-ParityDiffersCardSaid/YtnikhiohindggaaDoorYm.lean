/- Contracts of functions of the program (Tar, Yc, Yd, Ye, Yf, Yg, Yh, Yz, Zr, Zm, Zk, Zo, Facts, Kit, Over, Yl, Ym): what each call answers and that it leaves memory as it was. Conditions: those each theorem names. -/
import Derived.Test.YtnikhiohindggaaDoorYs
import Derived.Test.YtnikhiohindggaaDoorCoreL
import Derived.Lib.Builder
import Derived.Lib.UnsafeStr
import Derived.Laws.Externs
import Derived.Test.YtnikhiohindggaaDoorRows
set_option linter.unusedSectionVars false
set_option linter.unusedSimpArgs false
set_option linter.unusedVariables false
set_option linter.unnecessarySimpa false
set_option maxHeartbeats 8000000
set_option maxRecDepth 20000
namespace Go.Lx
inductive Rch (E : Nat → Nat → Prop) : Nat → Nat → Prop
 | refl (v : Nat) : Rch E v v
 | step {u v w : Nat} : E u v → Rch E v w → Rch E u w
section
variable {E : Nat → Nat → Prop}
theorem Rch.one {u v : Nat} (h : E u v) : Rch E u v := .step h (.refl _)
theorem Rch.trans {u v w : Nat} (h : Rch E u v) (h2 : Rch E v w) : Rch E u w := by
 induction h with
 | refl => exact h2
 | step e _ ih => exact .step e (ih h2)
theorem Rch.tail {u v w : Nat} (h : Rch E u v) (e : E v w) : Rch E u w := h.trans (.one e)
theorem Rch.closed {S : Nat → Prop} (hc : ∀ u v, S u → E u v → S v) {u v : Nat} (h : Rch E u v) (hu : S u) : S v := by
 induction h with
 | refl => exact hu
 | step e _ ih => exact ih (hc _ _ hu e)
theorem Rch.mono {F : Nat → Nat → Prop} (hf : ∀ u v, E u v → F u v) {u v : Nat} (h : Rch E u v) : Rch F u v := by
 induction h with
 | refl => exact .refl _
 | step e _ ih => exact .step (hf _ _ e) ih
theorem Rch.last {u v : Nat} (h : Rch E u v) : u = v ∨ ∃ w, Rch E u w ∧ E w v := by
 induction h with
 | refl => exact .inl rfl
 | @step a b c e _ ih =>
  rcases ih with rfl | ⟨w, h1, h2⟩
  ·exact .inr ⟨a, .refl _, e⟩
  ·exact .inr ⟨w, .step e h1, h2⟩
structure TS where
 idx : Nat → Nat
 low : Nat → Nat
 comp : Nat → Int
 stk : List Nat
 clk : Nat
 cnt : Nat
structure TInv (n : Nat) (E : Nat → Nat → Prop) (gray : List Nat) (s : TS) : Prop where
 clk : ∀ v, s.idx v ≤ s.clk
 inj : ∀ u v, s.idx u ≠ 0 → s.idx u = s.idx v → u = v
 vis : ∀ v, s.idx v ≠ 0 → v < n
 srt : s.stk.Pairwise (fun u v => s.idx u < s.idx v)
 mem : ∀ v, v ∈ s.stk ↔ s.idx v ≠ 0 ∧ s.comp v < 0
 cmp : ∀ v, 0 ≤ s.comp v → s.idx v ≠ 0 ∧ s.comp v < s.cnt
 clo : ∀ u v, 0 ≤ s.comp u → E u v → 0 ≤ s.comp v ∧ s.comp v ≤ s.comp u
 cls : ∀ u v, 0 ≤ s.comp u → s.comp u = s.comp v → Rch E u v
 gry : ∀ g ∈ gray, g ∈ s.stk
 dn : ∀ x ∈ s.stk, ∃ g ∈ gray, s.idx g ≤ s.idx x ∧ Rch E x g
 up : ∀ g ∈ gray, ∀ y ∈ s.stk, s.idx g ≤ s.idx y → Rch E g y
 blk : ∀ u v, s.idx u ≠ 0 → u ∉ gray → E u v → s.idx v ≠ 0
structure TExt (s s' : TS) (t : List Nat) : Prop where
 idx : ∀ x, s.idx x ≠ 0 → s'.idx x = s.idx x
 low : ∀ x, s.idx x ≠ 0 → s'.low x = s.low x
 comp : ∀ x, s.idx x ≠ 0 → s'.comp x = s.comp x
 stk : s'.stk = s.stk ++ t
 clk : s.clk ≤ s'.clk
 new : ∀ x, s.idx x = 0 → s'.idx x ≠ 0 → s.clk < s'.idx x
def VPost (E : Nat → Nat → Prop) (s s' : TS) (t : List Nat) (v : Nat) : Prop :=
 s'.idx v ≠ 0 ∧ ((s'.comp v < 0 ∧ (∃ y ∈ s'.stk, s'.idx y = s'.low v ∧ Rch E v y) ∧ ∀ x ∈ t, ∀ u, E x u → u ∈ s.stk → s'.low v ≤ s.idx u) ∨ (0 ≤ s'.comp v ∧ t = [] ∧ s'.low v = s'.idx v))
structure VLoop (n : Nat) (E : Nat → Nat → Prop) (gray : List Nat) (s0 : TS) (v : Nat) (nx : List Nat) (k : Nat) (s : TS) (t : List Nat) : Prop where
 inv : TInv n E (gray ++ [v]) s
 idx : ∀ x, s0.idx x ≠ 0 → s.idx x = s0.idx x
 low : ∀ x, s0.idx x ≠ 0 → s.low x = s0.low x
 comp : ∀ x, s0.idx x ≠ 0 → s.comp x = s0.comp x
 clk : s0.clk ≤ s.clk
 new : ∀ x, s0.idx x = 0 → s.idx x ≠ 0 → s0.clk < s.idx x
 v0 : s0.idx v = 0
 v1 : s.idx v = s0.clk + 1
 stk : s.stk = s0.stk ++ v :: t
 lowv : s.low v ≤ s.idx v
 wit : ∃ y ∈ s.stk, s.idx y = s.low v ∧ Rch E v y
 cross : ∀ x ∈ t, ∀ u, E x u → u ∈ s0.stk → s.low v ≤ s0.idx u
 done : ∀ u ∈ nx.take k, s.idx u ≠ 0 ∧ (u ∈ s0.stk → s.low v ≤ s0.idx u)
theorem VLoop.enter {n : Nat} {gray : List Nat} {s0 : TS} {v : Nat} {nx : List Nat} {low : Nat → Nat} {idx : Nat → Nat} {comp : Nat → Int} (h : TInv n E gray s0) (hv : s0.idx v = 0) (hn : v < n) (hg : ∀ g ∈ gray, Rch E g v)
  (hi : ∀ x, idx x = if x = v then s0.clk + 1 else s0.idx x) (hl : ∀ x, low x = if x = v then s0.clk + 1 else s0.low x) (hcv : s0.comp v < 0) (hc : ∀ x, comp x = s0.comp x) :
  VLoop n E gray s0 v nx 0 { idx := idx, low := low, comp := comp, stk := s0.stk ++ [v], clk := s0.clk + 1, cnt := s0.cnt } [] := by
 have hns : v ∉ s0.stk := fun hm => ((h.mem v).1 hm).1 hv
 have hne : ∀ x, s0.idx x ≠ 0 → x ≠ v := fun x hx e => hx (e ▸ hv)
 have hiv : idx v = s0.clk + 1 := by rw [hi]; simp
 have hio : ∀ x, s0.idx x ≠ 0 → idx x = s0.idx x := fun x hx => by rw [hi, if_neg (hne x hx)]
 have hix : ∀ x, idx x ≠ 0 → x = v ∨ s0.idx x ≠ 0 := fun x hx => by
  rw [hi] at hx; split at hx
  ·exact .inl ‹_›
  ·exact .inr hx
 refine { inv := ?_, idx := hio, low := fun x hx => by show low x = _; rw [hl, if_neg (hne x hx)], comp := fun x _ => hc x, clk := Nat.le_succ _, new := ?_, v0 := hv, v1 := hiv, stk := rfl, lowv := by show low v ≤ idx v; rw [hl, hi]; simp, wit := ⟨v, by simp, by show idx v = low v; rw [hl, hi]; simp, .refl _⟩, cross := by simp, done := by simp }
 ·refine { clk := ?_, inj := ?_, vis := ?_, srt := ?_, mem := ?_, cmp := ?_, clo := ?_, cls := ?_, gry := ?_, dn := ?_, up := ?_, blk := ?_ }
  ·intro x; show idx x ≤ s0.clk + 1; rw [hi]; split
   ·omega
   ·exact Nat.le_succ_of_le (h.clk x)
  ·intro a b ha hab
   change idx a ≠ 0 at ha; change idx a = idx b at hab
   rcases hix a ha with rfl | ha'
   ·by_cases e : b = a
    ·exact e.symm
    ·rw [hiv, hi b, if_neg e] at hab
     have := h.clk b; omega
   ·rw [hio a ha'] at hab
    by_cases e : b = v
    ·subst e; rw [hiv] at hab; have := h.clk a; omega
    ·rw [hi b, if_neg e] at hab; exact h.inj a b ha' hab
  ·intro x hx
   rcases hix x hx with rfl | hx
   ·exact hn
   ·exact h.vis x hx
  ·show (s0.stk ++ [v]).Pairwise _
   rw [List.pairwise_append]
   refine ⟨h.srt.imp_of_mem fun {a b} ha hb hab => ?_, by simp, fun a ha b hb => ?_⟩
   ·show idx a < idx b
    rw [hio a ((h.mem a).1 ha).1, hio b ((h.mem b).1 hb).1]; exact hab
   ·simp at hb; subst hb
    show idx a < idx b
    rw [hio a ((h.mem a).1 ha).1, hiv]
    have := h.clk a; omega
  ·intro x
   show x ∈ s0.stk ++ [v] ↔ idx x ≠ 0 ∧ comp x < 0
   rw [hc]
   constructor
   ·intro hx
    rcases List.mem_append.1 hx with hx | hx
    ·have := (h.mem x).1 hx; exact ⟨by rw [hio x this.1]; exact this.1, this.2⟩
    ·simp at hx; subst hx; exact ⟨by rw [hiv]; omega, hcv⟩
   ·rintro ⟨h1, h2⟩
    rcases hix x h1 with rfl | h1
    ·simp
    ·exact List.mem_append_left _ ((h.mem x).2 ⟨h1, h2⟩)
  ·intro x hx
   change 0 ≤ comp x at hx; rw [hc] at hx
   show idx x ≠ 0 ∧ comp x < s0.cnt
   have := h.cmp x hx; rw [hc, hio x this.1]; exact this
  ·intro a b ha hab
   change 0 ≤ comp a at ha
   show 0 ≤ comp b ∧ comp b ≤ comp a
   rw [hc] at ha; rw [hc, hc]; exact h.clo a b ha hab
  ·intro a b ha hab
   change 0 ≤ comp a at ha; change comp a = comp b at hab
   rw [hc] at ha; rw [hc, hc] at hab; exact h.cls a b ha hab
  ·intro g hgm
   show g ∈ s0.stk ++ [v]
   rcases List.mem_append.1 hgm with hgm | hgm
   ·exact List.mem_append_left _ (h.gry g hgm)
   ·exact List.mem_append_right _ hgm
  ·intro x hx
   change x ∈ s0.stk ++ [v] at hx
   rcases List.mem_append.1 hx with hx | hx
   ·obtain ⟨g, h1, h2, h3⟩ := h.dn x hx
    refine ⟨g, List.mem_append_left _ h1, ?_, h3⟩
    show idx g ≤ idx x
    rw [hio x ((h.mem x).1 hx).1, hio g ((h.mem g).1 (h.gry g h1)).1]; exact h2
   ·simp at hx; subst hx
    exact ⟨x, by simp, Nat.le_refl _, .refl _⟩
  ·intro g hgm y hy hle
   change y ∈ s0.stk ++ [v] at hy; change idx g ≤ idx y at hle
   rcases List.mem_append.1 hgm with hg1 | hgm
   ·have hgs := h.gry g hg1
    rcases List.mem_append.1 hy with hy | hy
    ·rw [hio g ((h.mem g).1 hgs).1, hio y ((h.mem y).1 hy).1] at hle
     exact h.up g hg1 y hy hle
    ·obtain rfl : y = v := by simpa using hy
     exact hg g hg1
   ·obtain rfl : g = v := by simpa using hgm
    rcases List.mem_append.1 hy with hy | hy
    ·rw [hiv, hio y ((h.mem y).1 hy).1] at hle
     have := h.clk y; omega
    ·obtain rfl : y = g := by simpa using hy
     exact .refl _
  ·intro a b ha hga hab
   have hav : a ≠ v := fun e => hga (by simp [e])
   rcases hix a ha with e | ha
   ·exact absurd e hav
   ·have := h.blk a b ha (fun hm => hga (List.mem_append_left _ hm)) hab
    show idx b ≠ 0
    rw [hio b this]; exact this
 ·intro x h0 h1
  rcases hix x h1 with rfl | h2
  ·show s0.clk < idx x; rw [hiv]; omega
  ·exact absurd h0 h2
theorem TInv.low {n : Nat} {gray : List Nat} {s : TS} (h : TInv n E gray s) (low : Nat → Nat) : TInv n E gray { s with low := low } :=
 { clk := h.clk, inj := h.inj, vis := h.vis, srt := h.srt, mem := h.mem, cmp := h.cmp, clo := h.clo, cls := h.cls, gry := h.gry, dn := h.dn, up := h.up, blk := h.blk }
theorem TInv.ext {n : Nat} {gray : List Nat} {s : TS} (h : TInv n E gray s) {idx : Nat → Nat} {low : Nat → Nat} {comp : Nat → Int} (hi : ∀ x, idx x = s.idx x) (hc : ∀ x, comp x = s.comp x) : TInv n E gray { s with low := low, idx := idx, comp := comp } := by
 obtain rfl : idx = s.idx := funext hi
 obtain rfl : comp = s.comp := funext hc
 exact h.low low
section
variable {n : Nat} {gray : List Nat} {s0 s : TS} {v : Nat} {nx : List Nat} {k : Nat} {t : List Nat}
theorem VLoop.vstk (h : VLoop n E gray s0 v nx k s t) : v ∈ s.stk := by rw [h.stk]; simp
theorem VLoop.old (h : VLoop n E gray s0 v nx k s t) (h0 : TInv n E gray s0) {x : Nat} (hx : x ∈ s0.stk) : s0.idx x ≠ 0 ∧ s.idx x = s0.idx x ∧ s.idx x < s.idx v := by
 have h1 := ((h0.mem x).1 hx).1
 refine ⟨h1, h.idx x h1, ?_⟩
 rw [h.idx x h1, h.v1]; have := h0.clk x; omega
theorem VLoop.tnew (h : VLoop n E gray s0 v nx k s t) {x : Nat} (hx : x ∈ t) : s.idx v < s.idx x := by
 have := h.inv.srt; rw [h.stk, List.pairwise_append] at this
 have := this.2.1; rw [List.pairwise_cons] at this
 exact this.1 x hx
theorem VLoop.notgray (h : VLoop n E gray s0 v nx k s t) (h0 : TInv n E gray s0) {x : Nat} (hx : x ∈ t) : x ∉ gray ++ [v] := fun hm => by
 have h1 := h.tnew hx
 rcases List.mem_append.1 hm with hm | hm
 ·have := (h.old h0 (h0.gry x hm)).2.2; omega
 ·simp at hm; subst hm; omega
theorem VLoop.stepSkip (h : VLoop n E gray s0 v nx k s t) {u : Nat} (hk : k < nx.length) (hu : nx[k] = u) (hi : s.idx u ≠ 0) (hc : 0 ≤ s.comp u) (h0 : TInv n E gray s0) : VLoop n E gray s0 v nx (k + 1) s t :=
 { h with done := (by
   intro x hx
   rw [List.take_succ_eq_append_getElem hk, List.mem_append] at hx
   rcases hx with hx | hx
   ·exact h.done x hx
   ·simp at hx; rw [hu] at hx; subst hx
    refine ⟨hi, fun hm => ?_⟩
    have h1 := (h0.mem x).1 hm
    rw [h.comp x h1.1] at hc; omega) }
theorem VLoop.stepBack (h : VLoop n E gray s0 v nx k s t) {u : Nat} (hk : k < nx.length) (hu : nx[k] = u) (hE : E v u) (hi : s.idx u ≠ 0) (hc : s.comp u < 0) (h0 : TInv n E gray s0) {low : Nat → Nat}
  (hl : ∀ x, low x = if x = v then min (s.low v) (s.idx u) else s.low x) : VLoop n E gray s0 v nx (k + 1) { s with low := low } t := by
 have hlv : low v = min (s.low v) (s.idx u) := by rw [hl]; simp
 have hle : low v ≤ s.low v := by rw [hlv]; exact Nat.min_le_left _ _
 refine { inv := h.inv.low low, idx := h.idx, low := ?_, comp := h.comp, clk := h.clk, new := h.new, v0 := h.v0, v1 := h.v1, stk := h.stk, lowv := ?_, wit := ?_, cross := ?_, done := ?_ }
 ·intro x hx
  show low x = _
  rw [hl, if_neg (fun e => hx (by rw [e]; exact h.v0))]; exact h.low x hx
 ·show low v ≤ s.idx v; exact Nat.le_trans hle h.lowv
 ·obtain ⟨y, hy, h1, h2⟩ := h.wit
  show ∃ y ∈ s.stk, s.idx y = low v ∧ Rch E v y
  rw [hlv]
  by_cases hm : s.low v ≤ s.idx u
  ·exact ⟨y, hy, by rw [Nat.min_eq_left hm]; exact h1, h2⟩
  ·exact ⟨u, (h.inv.mem u).2 ⟨hi, hc⟩, by rw [Nat.min_eq_right (by omega)], .one hE⟩
 ·intro x hx w hw hm
  exact Nat.le_trans hle (h.cross x hx w hw hm)
 ·intro x hx
  show s.idx x ≠ 0 ∧ (x ∈ s0.stk → low v ≤ s0.idx x)
  rw [List.take_succ_eq_append_getElem hk, List.mem_append] at hx
  rcases hx with hx | hx
  ·exact ⟨(h.done x hx).1, fun hm => Nat.le_trans hle ((h.done x hx).2 hm)⟩
  ·simp at hx; rw [hu] at hx; subst hx
   refine ⟨hi, fun hm => ?_⟩
   rw [hlv, ← (h.old h0 hm).2.1]; exact Nat.min_le_right _ _
theorem VLoop.stepTree (h : VLoop n E gray s0 v nx k s t) {u : Nat} (hk : k < nx.length) (hu : nx[k] = u) (hE : E v u) (hi0 : s.idx u = 0) (h0 : TInv n E gray s0) {s' : TS} {t2 : List Nat} (hI : TInv n E (gray ++ [v]) s') (hX : TExt s s' t2) (hP : VPost E s s' t2 u) {low : Nat → Nat}
  (hl : ∀ x, low x = if x = v then min (s'.low v) (s'.low u) else s'.low x) : VLoop n E gray s0 v nx (k + 1) { s' with low := low } (t ++ t2) := by
 have hsv : s.idx v ≠ 0 := by rw [h.v1]; omega
 have hlv0 : s'.low v = s.low v := hX.low v hsv
 have hiv : s'.idx v = s.idx v := hX.idx v hsv
 have hlv : low v = min (s.low v) (s'.low u) := by rw [hl, if_pos rfl, hlv0]
 have hle : low v ≤ s.low v := by rw [hlv]; exact Nat.min_le_left _ _
 have hso : ∀ x, s0.idx x ≠ 0 → s.idx x ≠ 0 := fun x hx => by rw [h.idx x hx]; exact hx
 refine { inv := hI.low low, idx := fun x hx => (hX.idx x (hso x hx)).trans (h.idx x hx), low := ?_, comp := fun x hx => (hX.comp x (hso x hx)).trans (h.comp x hx), clk := Nat.le_trans h.clk hX.clk, new := ?_, v0 := h.v0, v1 := hiv.trans h.v1, stk := ?_, lowv := ?_, wit := ?_, cross := ?_, done := ?_ }
 ·intro x hx
  show low x = _
  rw [hl, if_neg (fun e => hx (by rw [e]; exact h.v0)), hX.low x (hso x hx)]; exact h.low x hx
 ·intro x hx0 hx1
  change s'.idx x ≠ 0 at hx1
  show s0.clk < s'.idx x
  by_cases hx2 : s.idx x = 0
  ·have := hX.new x hx2 hx1; have := h.clk; omega
  ·rw [hX.idx x hx2]; exact h.new x hx0 hx2
 ·show s'.stk = _
  rw [hX.stk, h.stk]; simp
 ·show low v ≤ s'.idx v
  rw [hiv]; exact Nat.le_trans hle h.lowv
 ·obtain ⟨y, hy, h1, h2⟩ := h.wit
  show ∃ y ∈ s'.stk, s'.idx y = low v ∧ Rch E v y
  have hold : low v = s.low v → ∃ y ∈ s'.stk, s'.idx y = low v ∧ Rch E v y := fun e =>
   ⟨y, by rw [hX.stk]; exact List.mem_append_left _ hy, by rw [hX.idx y ((h.inv.mem y).1 hy).1, e]; exact h1, h2⟩
  rcases hP.2 with ⟨_, ⟨z, hz, hz1, hz2⟩, _⟩ | ⟨_, _, h5⟩
  ·by_cases hm : s.low v ≤ s'.low u
   ·exact hold (by rw [hlv, Nat.min_eq_left hm])
   ·exact ⟨z, hz, by rw [hz1, hlv, Nat.min_eq_right (by omega)], .step hE hz2⟩
  ·refine hold ?_
   rw [hlv, Nat.min_eq_left]
   rw [h5]
   have hlo := h.lowv
   have := hX.new u hi0 hP.1
   have := h.inv.clk v
   omega
 ·intro x hx w hw hm
  show low v ≤ s0.idx w
  rcases List.mem_append.1 hx with hx | hx
  ·exact Nat.le_trans hle (h.cross x hx w hw hm)
  ·rcases hP.2 with ⟨_, _, h4⟩ | ⟨_, h4, _⟩
   ·have hws : w ∈ s.stk := by rw [h.stk]; exact List.mem_append_left _ hm
    have := h4 x hx w hw hws
    rw [(h.old h0 hm).2.1] at this
    rw [hlv]; exact Nat.le_trans (Nat.min_le_right _ _) this
   ·rw [h4] at hx; cases hx
 ·intro x hx
  show s'.idx x ≠ 0 ∧ (x ∈ s0.stk → low v ≤ s0.idx x)
  rw [List.take_succ_eq_append_getElem hk, List.mem_append] at hx
  rcases hx with hx | hx
  ·have := h.done x hx
   exact ⟨by rw [hX.idx x this.1]; exact this.1, fun hm => Nat.le_trans hle (this.2 hm)⟩
  ·simp at hx; rw [hu] at hx; subst hx
   refine ⟨hP.1, fun hm => ?_⟩
   have := h.old h0 hm
   rw [hi0] at this; omega
theorem VLoop.leave (h : VLoop n E gray s0 v nx k s t) (h0 : TInv n E gray s0) (hk : nx.length ≤ k) (hnx : ∀ u, E v u → u ∈ nx) (hne : s.low v ≠ s.idx v) : TInv n E gray s ∧ TExt s0 s (v :: t) ∧ VPost E s0 s (v :: t) v := by
 have hlt : s.low v < s.idx v := by have := h.lowv; omega
 have hv := h.inv.mem v |>.1 h.vstk
 obtain ⟨y, hy, hy1, hy2⟩ := h.wit
 have hdone : ∀ u, E v u → s.idx u ≠ 0 ∧ (u ∈ s0.stk → s.low v ≤ s0.idx u) := fun u hu => by
  have := h.done u; rw [List.take_of_length_le hk] at this; exact this (hnx u hu)
 refine ⟨{ clk := h.inv.clk, inj := h.inv.inj, vis := h.inv.vis, srt := h.inv.srt, mem := h.inv.mem, cmp := h.inv.cmp, clo := h.inv.clo, cls := h.inv.cls, gry := fun g hg => h.inv.gry g (List.mem_append_left _ hg), dn := ?_, up := fun g hg => h.inv.up g (List.mem_append_left _ hg), blk := ?_ }, ?_, hv.1, .inl ⟨hv.2, ⟨y, hy, hy1, hy2⟩, ?_⟩⟩
 ·intro x hx
  obtain ⟨g, h1, h2, h3⟩ := h.inv.dn x hx
  rcases List.mem_append.1 h1 with h1 | h1
  ·exact ⟨g, h1, h2, h3⟩
  ·simp at h1; subst h1
   obtain ⟨g', h4, h5, h6⟩ := h.inv.dn y hy
   rcases List.mem_append.1 h4 with h4 | h4
   ·exact ⟨g', h4, by omega, h3.trans (hy2.trans h6)⟩
   ·simp at h4; subst h4; omega
 ·intro a b ha hga hab
  by_cases e : a = v
  ·subst e; exact (hdone b hab).1
  ·exact h.inv.blk a b ha (by simp [hga, e]) hab
 ·exact ⟨h.idx, h.low, h.comp, h.stk, h.clk, h.new⟩
 ·intro x hx u hu hm
  rcases List.mem_cons.1 hx with rfl | hx
  ·exact (hdone u hu).2 hm
  ·exact h.cross x hx u hu hm
theorem VLoop.pop (h : VLoop n E gray s0 v nx k s t) (h0 : TInv n E gray s0) (hk : nx.length ≤ k) (hnx : ∀ u, E v u → u ∈ nx) (he : s.low v = s.idx v) {comp : Nat → Int} (hc : ∀ x, comp x = if x ∈ v :: t then (s.cnt : Int) else s.comp x) :
  TInv n E gray { s with comp := comp, stk := s0.stk, cnt := s.cnt + 1 } ∧ TExt s0 { s with comp := comp, stk := s0.stk, cnt := s.cnt + 1 } [] ∧ VPost E s0 { s with comp := comp, stk := s0.stk, cnt := s.cnt + 1 } [] v := by
 have hdone : ∀ u, E v u → s.idx u ≠ 0 ∧ (u ∈ s0.stk → s.low v ≤ s0.idx u) := fun u hu => by
  have := h.done u; rw [List.take_of_length_le hk] at this; exact this (hnx u hu)
 have hmem : ∀ x, x ∈ v :: t ↔ x ∈ s.stk ∧ x ∉ s0.stk := fun x => by
  rw [h.stk, List.mem_append]
  refine ⟨fun hx => ⟨.inr hx, fun hm => ?_⟩, fun hx => hx.1.resolve_left hx.2⟩
  have h1 := (h.old h0 hm).2.2
  rcases List.mem_cons.1 hx with rfl | hx
  ·omega
  ·have := h.tnew hx; omega
 have hcin : ∀ x, x ∈ v :: t → comp x = s.cnt := fun x hx => by rw [hc, if_pos hx]
 have hcout : ∀ x, x ∉ v :: t → comp x = s.comp x := fun x hx => by rw [hc, if_neg hx]
 have hsucc : ∀ x u, x ∈ v :: t → E x u → u ∈ v :: t ∨ 0 ≤ s.comp u := fun x u hx hu => by
  have hvis : s.idx u ≠ 0 := by
   rcases List.mem_cons.1 hx with rfl | hx
   ·exact (hdone u hu).1
   ·exact h.inv.blk x u ((h.inv.mem x).1 (by rw [h.stk]; simp [hx])).1 (h.notgray h0 hx) hu
  by_cases hcu : 0 ≤ s.comp u
  ·exact .inr hcu
  ·refine .inl ((hmem u).2 ⟨(h.inv.mem u).2 ⟨hvis, by omega⟩, fun hm => ?_⟩)
   have h1 := (h.old h0 hm).2
   have h2 : s.low v ≤ s0.idx u := by
    rcases List.mem_cons.1 hx with rfl | hx
    ·exact (hdone u hu).2 hm
    ·exact h.cross x hx u hu hm
   omega
 have hclosed : ∀ a b, (a ∈ v :: t ∨ 0 ≤ s.comp a) → E a b → b ∈ v :: t ∨ 0 ≤ s.comp b := fun a b ha hab => by
  rcases ha with ha | ha
  ·exact hsucc a b ha hab
  ·exact .inr (h.inv.clo a b ha hab).1
 have hneg : ∀ x ∈ v :: t, s.comp x < 0 := fun x hx => ((h.inv.mem x).1 ((hmem x).1 hx).1).2
 have hback : ∀ x ∈ v :: t, Rch E x v := fun x hx => by
  obtain ⟨g, h1, h2, h3⟩ := h.inv.dn x ((hmem x).1 hx).1
  rcases List.mem_append.1 h1 with h1 | h1
  ·exfalso
   have hgs := h0.gry g h1
   rcases h3.closed hclosed (.inl hx) with h4 | h4
   ·exact ((hmem g).1 h4).2 hgs
   ·have h5 := (h0.mem g).1 hgs
    rw [h.comp g h5.1] at h4; omega
  ·simp at h1; subst h1; exact h3
 have hforth : ∀ x ∈ v :: t, Rch E v x := fun x hx => by
  refine h.inv.up v (by simp) x ((hmem x).1 hx).1 ?_
  rcases List.mem_cons.1 hx with rfl | hx
  ·exact Nat.le_refl _
  ·exact Nat.le_of_lt (h.tnew hx)
 refine ⟨?_, ⟨h.idx, h.low, ?_, by simp, h.clk, h.new⟩, ?_, ?_⟩
 ·refine { clk := h.inv.clk, inj := h.inv.inj, vis := h.inv.vis, srt := ?_, mem := ?_, cmp := ?_, clo := ?_, cls := ?_, gry := ?_, dn := ?_, up := ?_, blk := ?_ }
  ·have := h.inv.srt; rw [h.stk, List.pairwise_append] at this; exact this.1
  ·intro x
   show x ∈ s0.stk ↔ s.idx x ≠ 0 ∧ comp x < 0
   constructor
   ·intro hx
    have h1 := (h0.mem x).1 hx
    refine ⟨by rw [h.idx x h1.1]; exact h1.1, ?_⟩
    rw [hcout x (fun hm => ((hmem x).1 hm).2 hx), h.comp x h1.1]; exact h1.2
   ·rintro ⟨h1, h2⟩
    by_cases hx : x ∈ v :: t
    ·rw [hcin x hx] at h2; omega
    ·rw [hcout x hx] at h2
     have h3 := (h.inv.mem x).2 ⟨h1, h2⟩
     by_cases h4 : x ∈ s0.stk
     ·exact h4
     ·exact absurd ((hmem x).2 ⟨h3, h4⟩) hx
  ·intro x hx
   show s.idx x ≠ 0 ∧ comp x < ((s.cnt + 1 : Nat) : Int)
   change 0 ≤ comp x at hx
   by_cases hm : x ∈ v :: t
   ·refine ⟨((h.inv.mem x).1 ((hmem x).1 hm).1).1, ?_⟩
    rw [hcin x hm]; omega
   ·rw [hcout x hm] at hx ⊢
    have := h.inv.cmp x hx
    exact ⟨this.1, by omega⟩
  ·intro a b ha hab
   show 0 ≤ comp b ∧ comp b ≤ comp a
   change 0 ≤ comp a at ha
   by_cases hm : a ∈ v :: t
   ·rw [hcin a hm]
    rcases hsucc a b hm hab with h1 | h1
    ·rw [hcin b h1]; omega
    ·have h2 := h.inv.cmp b h1
     rw [hcout b (fun hx => by have := hneg b hx; omega)]; omega
   ·rw [hcout a hm] at ha ⊢
    have h1 := h.inv.clo a b ha hab
    rw [hcout b (fun hx => by have := hneg b hx; omega)]; exact h1
  ·intro a b ha hab
   change 0 ≤ comp a at ha; change comp a = comp b at hab
   by_cases hm : a ∈ v :: t
   ·by_cases hmb : b ∈ v :: t
    ·exact (hback a hm).trans (hforth b hmb)
    ·rw [hcin a hm, hcout b hmb] at hab
     have := (h.inv.cmp b (by omega)).2; omega
   ·rw [hcout a hm] at ha hab
    by_cases hmb : b ∈ v :: t
    ·rw [hcin b hmb] at hab
     have := (h.inv.cmp a ha).2; omega
    ·rw [hcout b hmb] at hab; exact h.inv.cls a b ha hab
  ·exact h0.gry
  ·intro x hx
   have h1 := h.old h0 hx
   obtain ⟨g, h4, h5, h6⟩ := h.inv.dn x (by rw [h.stk]; exact List.mem_append_left _ hx)
   rcases List.mem_append.1 h4 with h4 | h4
   ·exact ⟨g, h4, h5, h6⟩
   ·simp at h4; subst h4; omega
  ·intro g hg y hy hle
   exact h.inv.up g (List.mem_append_left _ hg) y (by rw [h.stk]; exact List.mem_append_left _ hy) hle
  ·intro a b ha hga hab
   by_cases e : a = v
   ·subst e; exact (hdone b hab).1
   ·exact h.inv.blk a b ha (by simp [hga, e]) hab
 ·intro x hx
  show comp x = _
  rw [hcout x (fun hm => ?_)]
  ·exact h.comp x hx
  ·obtain ⟨h1, h2⟩ := (hmem x).1 hm
   have h3 := (h.inv.mem x).1 h1
   rw [h.comp x hx] at h3
   exact h2 ((h0.mem x).2 ⟨hx, h3.2⟩)
 ·show s.idx v ≠ 0
  rw [h.v1]; omega
 ·refine .inr ⟨?_, rfl, he⟩
  show 0 ≤ comp v
  rw [hcin v (by simp)]; omega
end
structure CompOk (n : Nat) (E : Nat → Nat → Prop) (comp : Nat → Int) (cnt : Nat) : Prop where
 pos : ∀ v, v < n → 0 ≤ comp v ∧ comp v < cnt
 clo : ∀ u v, u < n → E u v → comp v ≤ comp u
 cls : ∀ u v, u < n → v < n → comp u = comp v → Rch E u v
theorem TInv.done {n : Nat} {s : TS} (h : TInv n E [] s) (hv : ∀ v, v < n → s.idx v ≠ 0) : CompOk n E s.comp s.cnt := by
 have hp : ∀ v, v < n → 0 ≤ s.comp v := fun v hn => by
  by_cases hc : s.comp v < 0
  ·obtain ⟨g, hg, _⟩ := h.dn v ((h.mem v).2 ⟨hv v hn, hc⟩); cases hg
  ·omega
 exact ⟨fun v hn => ⟨hp v hn, (h.cmp v (hp v hn)).2⟩, fun u v hn e => (h.clo u v (hp u hn) e).2, fun u v hn _ e => h.cls u v (hp u hn) e⟩
theorem TInv.start (n : Nat) (low : Nat → Nat) : TInv n E [] { idx := fun _ => 0, low := low, comp := fun _ => -1, stk := [], clk := 0, cnt := 0 } :=
 ⟨fun _ => Nat.zero_le _, fun u v h => absurd rfl h, fun v h => absurd rfl h, List.Pairwise.nil, fun v => by simp, fun v h => absurd (show (0 : Int) ≤ -1 from h) (by decide), fun u v h => absurd (show (0 : Int) ≤ -1 from h) (by decide), fun u v h => absurd (show (0 : Int) ≤ -1 from h) (by decide), fun g h => (List.not_mem_nil h).elim, fun g h => (List.not_mem_nil h).elim, fun g h => (List.not_mem_nil h).elim, fun u v h => absurd rfl h⟩
theorem CompOk.rch {n : Nat} {comp : Nat → Int} {cnt : Nat} (h : CompOk n E comp cnt) (hE : ∀ u v, E u v → u < n ∧ v < n) {u v : Nat} (hu : u < n) (hr : Rch E u v) : comp v ≤ comp u ∧ v < n := by
 induction hr with
 | refl => exact ⟨Int.le_refl _, hu⟩
 | step e _ ih =>
  have h1 := hE _ _ e
  have h2 := ih h1.2
  have h3 := h.clo _ _ h1.1 e
  exact ⟨by omega, h2.2⟩
end
end Go.Lx


namespace Go.Lx
def InS (E : Nat → Nat → Prop) (S : Nat → Prop) (u v : Nat) : Prop := E u v ∧ S u ∧ S v
def Cyc (E : Nat → Nat → Prop) (S : Nat → Prop) (v : Nat) : Prop := ∃ u, InS E S v u ∧ Rch (InS E S) u v
def Cmp (E : Nat → Nat → Prop) (S : Nat → Prop) (v u : Nat) : Prop := S u ∧ Rch (InS E S) v u ∧ Rch (InS E S) u v
def LoopS (E : Nat → Nat → Prop) (P : Nat → Prop) : Prop := (∃ a, P a) ∧ ∀ a b, P a → P b → ∃ c, InS E P a c ∧ Rch (InS E P) c b
def IsMax (f : Nat → Nat) (P : Nat → Prop) (m : Nat) : Prop := (∃ u, P u ∧ f u = m) ∧ ∀ u, P u → f u ≤ m
def Max0 (f : Nat → Nat) (P : Nat → Prop) (k : Nat) : Prop := (∀ u, P u → f u ≤ k) ∧ (k = 0 ∨ ∃ u, P u ∧ f u = k)
inductive IsRed (E : Nat → Nat → Prop) (pr : Nat → Nat) (r : Nat → Nat) : (Nat → Prop) → Prop
 | mk {S : Nat → Prop} (h0 : ∀ v, S v → ¬ Cyc E S v → r v = 0)
   (h1 : ∀ v, S v → Cyc E S v → ∀ m, IsMax pr (Cmp E S v) m → IsRed E pr r (fun u => Cmp E S v u ∧ pr u < m))
   (h2 : ∀ v, S v → Cyc E S v → ∀ m k, IsMax pr (Cmp E S v) m → pr v = m → Max0 r (fun u => Cmp E S v u ∧ pr u < m) k → r v = k + (k + m) % 2) : IsRed E pr r S
section
variable {E : Nat → Nat → Prop} {pr r : Nat → Nat} {S : Nat → Prop}
theorem IsMax.unique {f : Nat → Nat} {P : Nat → Prop} {m k : Nat} (h : IsMax f P m) (g : IsMax f P k) : m = k := by
 obtain ⟨⟨u, hu, rfl⟩, h2⟩ := h
 obtain ⟨⟨v, hv, rfl⟩, g2⟩ := g
 exact Nat.le_antisymm (g2 u hu) (h2 v hv)
theorem Max0.unique {f : Nat → Nat} {P : Nat → Prop} {m k : Nat} (h : Max0 f P m) (g : Max0 f P k) : m = k := by
 obtain ⟨h1, h2⟩ := h
 obtain ⟨g1, g2⟩ := g
 have a : m ≤ k := by rcases h2 with rfl | ⟨u, hu, rfl⟩; exact Nat.zero_le _; exact g1 u hu
 have b : k ≤ m := by rcases g2 with rfl | ⟨u, hu, rfl⟩; exact Nat.zero_le _; exact h1 u hu
 omega
theorem max0_ex (f : Nat → Nat) {P : Nat → Prop} : ∀ n, (∀ u, P u → u < n) → ∃ k, Max0 f P k
 | 0, h => ⟨0, fun u hu => absurd (h u hu) (Nat.not_lt_zero _), .inl rfl⟩
 | n + 1, h => by
  obtain ⟨k, h1, h2⟩ := max0_ex f (P := fun u => P u ∧ u < n) n (fun u hu => hu.2)
  by_cases hn : P n
  ·by_cases hk : f n ≤ k
   ·refine ⟨k, fun u hu => ?_, h2.imp id fun ⟨u, hu, e⟩ => ⟨u, hu.1, e⟩⟩
    by_cases e : u = n
    ·rw [e]; exact hk
    ·exact h1 u ⟨hu, by have := h u hu; omega⟩
   ·refine ⟨f n, fun u hu => ?_, .inr ⟨n, hn, rfl⟩⟩
    by_cases e : u = n
    ·rw [e]; exact Nat.le_refl _
    ·have := h1 u ⟨hu, by have := h u hu; omega⟩; omega
  ·refine ⟨k, fun u hu => ?_, h2.imp id fun ⟨u, hu, e⟩ => ⟨u, hu.1, e⟩⟩
   by_cases e : u = n
   ·exact absurd (e ▸ hu) hn
   ·exact h1 u ⟨hu, by have := h u hu; omega⟩
theorem isMax_ex (f : Nat → Nat) {P : Nat → Prop} {n : Nat} (h : ∀ u, P u → u < n) (hne : ∃ u, P u) : ∃ m, IsMax f P m := by
 obtain ⟨k, h1, h2⟩ := max0_ex f n h
 obtain ⟨u, hu⟩ := hne
 rcases h2 with rfl | ⟨v, hv, e⟩
 ·exact ⟨0, ⟨u, hu, Nat.le_zero.1 (h1 u hu)⟩, h1⟩
 ·exact ⟨k, ⟨v, hv, e⟩, h1⟩
theorem InS.mono {S T : Nat → Prop} (h : ∀ u, S u → T u) {u v : Nat} (e : InS E S u v) : InS E T u v := ⟨e.1, h _ e.2.1, h _ e.2.2⟩
theorem rch_mono {S T : Nat → Prop} (h : ∀ u, S u → T u) {u v : Nat} (e : Rch (InS E S) u v) : Rch (InS E T) u v := e.mono fun _ _ => InS.mono h
theorem Cmp.refl {v : Nat} (h : S v) : Cmp E S v v := ⟨h, .refl _, .refl _⟩
theorem Cmp.symm {u v : Nat} (hv : S v) (h : Cmp E S v u) : Cmp E S u v := ⟨hv, h.2.2, h.2.1⟩
theorem Cmp.trans {u v w : Nat} (h : Cmp E S u v) (g : Cmp E S v w) : Cmp E S u w := ⟨g.1, h.2.1.trans g.2.1, g.2.2.trans h.2.2⟩
theorem Cmp.same {u v : Nat} (hv : S v) (h : Cmp E S v u) : Cmp E S u = Cmp E S v := funext fun w => propext ⟨fun g => h.trans g, fun g => (h.symm hv).trans g⟩
theorem Cyc.of_cmp {u v : Nat} (hc : Cyc E S v) (h : Cmp E S v u) : Cyc E S u := by
 obtain ⟨c, hc1, hc2⟩ := hc
 have : ∃ d, InS E S u d ∧ Rch (InS E S) d v := by
  have hr := h.2.2
  cases hr with
  | refl => exact ⟨c, hc1, hc2⟩
  | step e g => exact ⟨_, e, g⟩
 obtain ⟨d, h1, h2⟩ := this
 exact ⟨d, h1, h2.trans h.2.1⟩
theorem LoopS.cmp {P : Nat → Prop} (h : LoopS E P) (hp : ∀ u, P u → S u) {a b : Nat} (ha : P a) (hb : P b) : Cmp E S a b ∧ Cyc E S a := by
 have key : ∀ a b, P a → P b → ∃ c, InS E S a c ∧ Rch (InS E S) c b := fun a b ha hb => by
  obtain ⟨c, h1, h2⟩ := h.2 a b ha hb
  exact ⟨c, InS.mono hp h1, rch_mono hp h2⟩
 obtain ⟨c, h1, h2⟩ := key a b ha hb
 obtain ⟨d, h3, h4⟩ := key b a hb ha
 exact ⟨⟨hp b hb, .step h1 h2, .step h3 h4⟩, c, h1, h2.trans (.step h3 h4)⟩
theorem Cmp.loop {v : Nat} (hv : S v) (hc : Cyc E S v) : LoopS E (Cmp E S v) := by
 refine ⟨⟨v, .refl hv⟩, fun a b ha hb => ?_⟩
 have hcy := hc.of_cmp ha
 obtain ⟨c, h1, h2⟩ := hcy
 have hac : Cmp E S a c := ⟨h1.2.2, .one h1, h2⟩
 have hca : Cmp E S v c := ha.trans hac
 have inner : ∀ x y, Rch (InS E S) x y → Cmp E S v x → Cmp E S v y → Rch (InS E (Cmp E S v)) x y := by
  intro x y hr
  induction hr with
  | refl => intro _ _; exact .refl _
  | @step x z y e g ih =>
   intro hx hy
   have hz : Cmp E S v z := ⟨e.2.2, hx.2.1.tail e, g.trans hy.2.2⟩
   exact .step ⟨e.1, hx, hz⟩ (ih hz hy)
 exact ⟨c, ⟨h1.1, ha, hca⟩, inner c b (h2.trans ((ha.symm hv).trans hb).2.1) hca hb⟩
theorem IsRed.ext {r' : Nat → Nat} (h : IsRed E pr r S) (he : ∀ v, S v → r' v = r v) : IsRed E pr r' S := by
 induction h with
 | @mk S h0 h1 h2 ih =>
  refine .mk (fun v hv hc => by rw [he v hv, h0 v hv hc]) (fun v hv hc m hm => ih v hv hc m hm fun u hu => he u hu.1.1) (fun v hv hc m k hm hp hk => ?_)
  rw [he v hv]
  refine h2 v hv hc m k hm hp ⟨fun u hu => ?_, hk.2.imp id fun ⟨u, hu, e⟩ => ⟨u, hu, ?_⟩⟩
  ·rw [← he u hu.1.1]; exact hk.1 u hu
  ·rw [← he u hu.1.1]; exact e
theorem IsRed.unique {r' : Nat → Nat} {n : Nat} (hn : ∀ v, S v → v < n) (h : IsRed E pr r S) (g : IsRed E pr r' S) : ∀ v, S v → r v = r' v := by
 induction h with
 | @mk S h0 h1 h2 ih =>
  cases g with
  | mk g0 g1 g2 =>
   intro v hv
   by_cases hc : Cyc E S v
   ·obtain ⟨m, hm⟩ := isMax_ex pr (P := Cmp E S v) (fun u hu => hn u hu.1) ⟨v, .refl hv⟩
    have e := ih v hv hc m hm (fun u hu => hn u hu.1.1) (g1 v hv hc m hm)
    have hle := hm.2 v (.refl hv)
    by_cases hp : pr v = m
    ·obtain ⟨k, hk⟩ := max0_ex r (P := fun u => Cmp E S v u ∧ pr u < m) n (fun u hu => hn u hu.1.1)
     rw [h2 v hv hc m k hm hp hk]
     refine (g2 v hv hc m k hm hp ⟨fun u hu => ?_, hk.2.imp id fun ⟨u, hu, e2⟩ => ⟨u, hu, ?_⟩⟩).symm
     ·rw [← e u hu]; exact hk.1 u hu
     ·rw [← e u hu]; exact e2
    ·exact e v ⟨.refl hv, by omega⟩
   ·rw [h0 v hv hc, g0 v hv hc]
theorem top_le {k m : Nat} (h : k < m ∨ k = 0) : k + (k + m) % 2 ≤ m := by omega
theorem top_mod (k m : Nat) : (k + (k + m) % 2) % 2 = m % 2 := by omega
theorem IsRed.le {n : Nat} (hn : ∀ v, S v → v < n) (h : IsRed E pr r S) : ∀ v, S v → r v ≤ pr v := by
 induction h with
 | @mk S h0 h1 h2 ih =>
  intro v hv
  by_cases hc : Cyc E S v
  ·obtain ⟨m, hm⟩ := isMax_ex pr (P := Cmp E S v) (fun u hu => hn u hu.1) ⟨v, .refl hv⟩
   have e := ih v hv hc m hm (fun u hu => hn u hu.1.1)
   have hle := hm.2 v (.refl hv)
   by_cases hp : pr v = m
   ·obtain ⟨k, hk⟩ := max0_ex r (P := fun u => Cmp E S v u ∧ pr u < m) n (fun u hu => hn u hu.1.1)
    rw [h2 v hv hc m k hm hp hk, hp]
    refine top_le ?_
    rcases hk.2 with h | ⟨u, hu, e2⟩
    ·exact .inr h
    ·have := e u hu; have := hu.2; exact .inl (by omega)
   ·exact e v ⟨.refl hv, by omega⟩
  ·rw [h0 v hv hc]; exact Nat.zero_le _
theorem IsRed.cycle {n : Nat} (hn : ∀ v, S v → v < n) (h : IsRed E pr r S) {P : Nat → Prop} (hl : LoopS E P) (hp : ∀ u, P u → S u) {m k : Nat} (hm : IsMax pr P m) (hk : IsMax r P k) : k % 2 = m % 2 ∧ k ≤ m := by
 have hr := h
 induction h generalizing P with
 | @mk S h0 h1 h2 ih =>
  obtain ⟨a, ha, ea⟩ := hm.1
  have hall : ∀ b, P b → Cmp E S a b := fun b hb => (hl.cmp hp ha hb).1
  have hca := (hl.cmp hp ha ha).2
  obtain ⟨M, hM⟩ := isMax_ex pr (P := Cmp E S a) (fun u hu => hn u hu.1) ⟨a, .refl (hp a ha)⟩
  have haM := hM.2 a (.refl (hp a ha))
  by_cases hmM : m = M
  ·subst hmM
   obtain ⟨k0, hk0⟩ := max0_ex r (P := fun u => Cmp E S a u ∧ pr u < m) n (fun u hu => hn u hu.1.1)
   have hlt : k0 < m ∨ k0 = 0 := by
    rcases hk0.2 with h | ⟨u, hu, e2⟩
    ·exact .inr h
    ·have := hr.le hn u hu.1.1; have := hu.2; exact .inl (by omega)
   have htop : ∀ b, P b → pr b = m → r b = k0 + (k0 + m) % 2 := fun b hb e => by
    have hcb := hall b hb
    have hs := hcb.same (hp a ha)
    refine h2 b (hp b hb) (hca.of_cmp hcb) m k0 (by rw [hs]; exact hM) e ?_
    rw [hs]; exact hk0
   have hkk : k = k0 + (k0 + m) % 2 := by
    refine hk.unique ⟨⟨a, ha, htop a ha ea⟩, fun b hb => ?_⟩
    by_cases e : pr b = m
    ·rw [htop b hb e]; exact Nat.le_refl _
    ·have := hk0.1 b ⟨hall b hb, by have := hm.2 b hb; omega⟩; omega
   rw [hkk]
   exact ⟨top_mod _ _, top_le hlt⟩
  ·exact ih a (hp a ha) hca M hM (fun v hv => hn v hv.1.1) hl (fun u hu => ⟨hall u hu, by have := hm.2 u hu; omega⟩) hm hk (h1 a (hp a ha) hca M hM)
noncomputable def cardS (n : Nat) (X : Nat → Prop) : Nat := ((List.range n).filter fun u => @decide (X u) (Classical.propDecidable _)).length
theorem cardS_lt {n : Nat} {X Y : Nat → Prop} (h : ∀ u, Y u → X u) {a : Nat} (ha : a < n) (hx : X a) (hy : ¬ Y a) : cardS n Y < cardS n X := by
 unfold cardS
 have sub : ∀ l : List Nat, (l.filter fun u => @decide (Y u) (Classical.propDecidable _)).length ≤ (l.filter fun u => @decide (X u) (Classical.propDecidable _)).length := by
  intro l
  induction l with
  | nil => exact Nat.le_refl _
  | cons b l ih =>
   by_cases hb : Y b
   ·have hb2 := h b hb
    simp only [List.filter_cons, hb, hb2, decide_true, if_true, List.length_cons]; omega
   ·by_cases hb2 : X b
    ·simp only [List.filter_cons, hb, hb2, decide_true, decide_false, if_true, List.length_cons, Bool.false_eq_true, if_false]; omega
    ·simp only [List.filter_cons, hb, hb2, decide_false, Bool.false_eq_true, if_false]; exact ih
 have key : ∀ l : List Nat, a ∈ l → (l.filter fun u => @decide (Y u) (Classical.propDecidable _)).length < (l.filter fun u => @decide (X u) (Classical.propDecidable _)).length := by
  intro l
  induction l with
  | nil => intro h; cases h
  | cons b l ih =>
   intro hm
   by_cases e : b = a
   ·subst e
    have := sub l
    simp only [List.filter_cons, hy, hx, decide_true, decide_false, if_true, List.length_cons, Bool.false_eq_true, if_false]; omega
   ·have hl : a ∈ l := by rcases List.mem_cons.1 hm with h | h; exact absurd h.symm e; exact h
    have := ih hl
    by_cases hb : Y b
    ·have hb2 := h b hb
     simp only [List.filter_cons, hb, hb2, decide_true, if_true, List.length_cons]; omega
    ·by_cases hb2 : X b
     ·simp only [List.filter_cons, hb, hb2, decide_true, decide_false, if_true, List.length_cons, Bool.false_eq_true, if_false]; omega
     ·simp only [List.filter_cons, hb, hb2, decide_false, Bool.false_eq_true, if_false]; exact this
 exact key _ (List.mem_range.2 ha)
end
end Go.Lx


namespace Go.Lx
def PEd (p : Par) (u v : Nat) : Prop := u < p.next.length ∧ ∃ x, x < letN p.d ∧ toN p.d u x = v
def StS (p : Par) (v : Nat) : Prop := v < p.next.length
theorem PEd.lt {p : Par} (h : ValidP p) {u v : Nat} (e : PEd p u v) : v < p.next.length := by
 obtain ⟨hu, x, hx, rfl⟩ := e
 exact (h.val.toN_lt hu hx).1
theorem PEd.d {p q : Par} (h : p.d = q.d) : PEd p = PEd q := by
 have h1 : p.next = q.next := congrArg DFA.next h
 funext u v
 unfold PEd
 rw [h, h1]
theorem vis_isMax (p : Par) (s : Nat) {w : List Nat} (h : w ≠ []) : IsMax (prN p) (fun u => u ∈ visL p.d s w) (topP p s w) := by
 have hne : (visL p.d s w).map (prN p) ≠ [] := fun e => by
  have := congrArg List.length e
  rw [List.length_map, visL_len, List.length_nil] at this
  exact h (List.length_eq_zero_iff.1 this)
 obtain ⟨u, hu, e⟩ := List.mem_map.1 (foldl_max_mem hne)
 exact ⟨⟨u, hu, e⟩, fun v hv => le_foldl_max (List.mem_map_of_mem hv)⟩
theorem vis_loop {p : Par} (h : ValidP p) {s : Nat} (hs : s < p.next.length) {w : List Nat} (h0 : 0 < w.length) (hw : Wd p.d w) (hr : runN p.d s w = s) : LoopS (PEd p) (fun u => u ∈ visL p.d s w) := by
 have wd : ∀ r, Wd p.d (w.take r) := fun r x hx => hw x (List.mem_of_mem_take hx)
 have lt : ∀ r, runN p.d s (w.take r) < p.next.length := fun r => runN_lt h.val hs _ (wd r)
 have mem : ∀ r, r < w.length → runN p.d s (w.take (r + 1)) ∈ visL p.d s w := fun r hr => List.mem_of_getElem? (visL_get p.d w s r hr)
 have edge : ∀ r, r < w.length → PEd p (runN p.d s (w.take r)) (runN p.d s (w.take (r + 1))) := fun r hr => by
  refine ⟨lt r, w[r], hw _ (List.getElem_mem hr), ?_⟩
  rw [List.take_succ_eq_append_getElem hr, runN_snoc]
 have chain : ∀ i j, i ≤ j → j < w.length → Rch (InS (PEd p) fun u => u ∈ visL p.d s w) (runN p.d s (w.take (i + 1))) (runN p.d s (w.take (j + 1))) := by
  intro i j hij
  induction hij with
  | refl => intro _; exact .refl _
  | @step j _ ih =>
   intro hj
   exact (ih (by omega)).tail ⟨edge (j + 1) hj, mem j (by omega), mem (j + 1) hj⟩
 have hlast : runN p.d s (w.take (w.length - 1 + 1)) = s := by rw [show w.length - 1 + 1 = w.length by omega, List.take_of_length_le (Nat.le_refl _), hr]
 have wrap : InS (PEd p) (fun u => u ∈ visL p.d s w) s (runN p.d s (w.take (0 + 1))) := by
  have e0 := edge 0 h0
  have m1 := mem (w.length - 1) (by omega)
  rw [hlast] at m1
  rw [show runN p.d s (w.take 0) = s by simp [runN]] at e0
  exact ⟨e0, m1, mem 0 h0⟩
 have ix : ∀ u, u ∈ visL p.d s w → ∃ i, i < w.length ∧ u = runN p.d s (w.take (i + 1)) := fun u hu => by
  obtain ⟨i, hi⟩ := List.mem_iff_getElem?.1 hu
  have hl := (List.getElem?_eq_some_iff.1 hi).1
  rw [visL_len] at hl
  rw [visL_get p.d w s i hl] at hi
  exact ⟨i, hl, (Option.some.inj hi).symm⟩
 refine ⟨⟨_, mem 0 h0⟩, fun a b ha hb => ?_⟩
 obtain ⟨i, hi, rfl⟩ := ix a ha
 obtain ⟨j, hj, rfl⟩ := ix b hb
 have back : Rch (InS (PEd p) fun u => u ∈ visL p.d s w) s (runN p.d s (w.take (j + 1))) := .step wrap (chain 0 j (Nat.zero_le _) hj)
 by_cases hl : i + 1 < w.length
 ·refine ⟨_, ⟨edge (i + 1) hl, mem i hi, mem (i + 1) hl⟩, ?_⟩
  have := chain (i + 1) (w.length - 1) (by omega) (by omega)
  rw [hlast] at this
  exact this.trans back
 ·have e : i = w.length - 1 := by omega
  rw [e, hlast]
  exact ⟨_, wrap, chain 0 j (Nat.zero_le _) hj⟩
theorem vis_lt {p : Par} (h : ValidP p) : ∀ (w : List Nat) (s : Nat), s < p.next.length → Wd p.d w → ∀ u ∈ visL p.d s w, u < p.next.length
 | [], _, _, _, u, hu => by cases hu
 | x :: w, s, hs, hw, u, hu => by
  have h1 := (h.val.toN_lt hs (hw x (by simp))).1
  rcases List.mem_cons.1 hu with rfl | hu
  ·exact h1
  ·exact vis_lt h w _ h1 (fun y hy => hw y (by simp [hy])) u hu
theorem pigeon {n : Nat} {f : Nat → Nat} (h : ∀ k, f k < n) : ∃ j m, 0 < m ∧ f (j + m) = f j ∧ j + m ≤ n := by
 refine Classical.byContradiction fun hno => ?_
 have hnd : ((List.range (n + 1)).map f).Nodup := by
  refine List.pairwise_iff_getElem.2 fun i j hi hj hij e => hno ?_
  simp only [List.length_map, List.length_range] at hi hj
  simp only [List.getElem_map, List.getElem_range] at e
  exact ⟨i, j - i, by omega, by rw [show i + (j - i) = j by omega]; exact e.symm, by omega⟩
 have := nodup_bound hnd (n := n) (fun x hx => by
  obtain ⟨k, _, rfl⟩ := List.mem_map.1 hx
  exact h k)
 rw [List.length_map, List.length_range] at this
 omega
theorem repL_wd {d : DFA} {w : List Nat} (h : Wd d w) : ∀ m, Wd d (repL w m)
 | 0, x, hx => by cases hx
 | m + 1, x, hx => by
  rcases List.mem_append.1 hx with hx | hx
  ·exact repL_wd h m x hx
  ·exact h x hx
theorem orb_lt {d : DFA} (hv : Val d) {w : List Nat} (hw : Wd d w) {s : Nat} (hs : s < d.next.length) : ∀ k, orbN d w s k < d.next.length
 | 0 => hs
 | k + 1 => runN_lt hv (orb_lt hv hw hs k) w hw
structure LasOk (p : Par) (l : La) : Prop where
 pos : 0 < l.loop.length
 pre : Wd p.d l.pre
 loop : Wd p.d l.loop
theorem inf_way {p : Par} (h : ValidP p) {l : La} (hl : LasOk p l) : ∃ s w, s < p.next.length ∧ 0 < w.length ∧ Wd p.d w ∧ runN p.d s w = s ∧ ∀ q : Par, q.d = p.d → IsInf q l.at (topP q s w) := by
 have h0 : runN p.d p.d.start.toNat l.pre < p.next.length := runN_lt h.val h.st l.pre hl.pre
 obtain ⟨j, m, hm, he, _⟩ := pigeon (fun k => orb_lt h.val hl.loop h0 k)
 refine ⟨orbN p.d l.loop _ j, repL l.loop m, orb_lt h.val hl.loop h0 j, by rw [repL_len]; exact Nat.mul_pos hm hl.pos, repL_wd hl.loop m, by rw [orb_rep, orb_add]; exact he, fun q hq => ?_⟩
 have := lasso_inf (p := q) hl.pos (s0 := runN q.d q.d.start.toNat l.pre) (j := j) (m := m) rfl hm (by rw [hq]; exact he)
 rw [hq] at this; exact this
structure RedOf (p : Par) (f : Nat → Nat) : Prop where
 red : IsRed (PEd p) (prN p) f (StS p)
def rdP (p : Par) (f : Nat → Nat) : Par := withP p fun s => ((f s : Nat) : Int)
theorem rdP_pr {p : Par} {f : Nat → Nat} {s : Nat} (hs : s < p.next.length) : prN (rdP p f) s = f s := by
 unfold rdP; rw [withP_pr hs]; exact Int.toNat_natCast _
theorem rdP_congr {p : Par} {f g : Nat → Nat} (h : ∀ s, s < p.next.length → f s = g s) : rdP p f = rdP p g := by
 unfold rdP withP
 congr 1
 exact List.map_congr_left fun s hs => by rw [h s (List.mem_range.1 hs)]
theorem RedOf.unique {p : Par} {f g : Nat → Nat} (h : RedOf p f) (k : RedOf p g) : rdP p f = rdP p g := rdP_congr (h.red.unique (n := p.next.length) (fun v hv => hv) k.red)
theorem RedOf.valid {p : Par} {f : Nat → Nat} (hp : ValidP p) (h : RedOf p f) : ValidP (rdP p f) := withP_valid hp fun s hs => by
 have := h.red.le (n := p.next.length) (fun v hv => hv) s hs
 have := hp.prLe s
 omega
theorem RedOf.run {p : Par} (hp : ValidP p) {f : Nat → Nat} (h : RedOf p f) {s : Int} (h0 : 0 ≤ s) (h1 : s < (p.next.length : Int)) {l : La} (hl : LasOk p l) :
  infP { p with start := s } l.at % 2 = infP { rdP p f with start := s } l.at % 2 ∧ infP { rdP p f with start := s } l.at ≤ infP { p with start := s } l.at := by
 have hv : ValidP { p with start := s } := ⟨{ hp.val with s0 := h0, s1 := h1 }, hp.n4, hp.pl, hp.pr⟩
 obtain ⟨q, w, hq, hw0, hww, hwr, hI⟩ := inf_way hv (l := l) ⟨hl.pos, hl.pre, hl.loop⟩
 rw [infP_eq (hI { p with start := s } rfl), infP_eq (hI { rdP p f with start := s } rfl)]
 have hne : w ≠ [] := fun e => by rw [e] at hw0; exact absurd hw0 (by decide)
 have hlp := vis_loop hv hq hw0 hww hwr
 have hE : PEd { p with start := s } = PEd p := rfl
 rw [hE] at hlp
 have m1 := vis_isMax { p with start := s } q hne
 have m2 := vis_isMax { rdP p f with start := s } q hne
 have hlt := vis_lt hv w q hq hww
 have m3 : IsMax f (fun u => u ∈ visL ({ p with start := s } : Par).d q w) (topP { rdP p f with start := s } q w) := by
  obtain ⟨⟨u, hu, e⟩, hm⟩ := m2
  have hpr : ∀ u, u ∈ visL ({ p with start := s } : Par).d q w → prN { rdP p f with start := s } u = f u := fun u hu => rdP_pr (p := p) (hlt u hu)
  exact ⟨⟨u, hu, by rw [← hpr u hu]; exact e⟩, fun v hv => by rw [← hpr v hv]; exact hm v hv⟩
 have := h.red.cycle (n := p.next.length) (fun v hv => hv) hlp (fun u hu => hlt u hu) m1 m3
 exact ⟨this.1.symm, this.2⟩
end Go.Lx


namespace Go.Lx
def bisN (A B : Par) : Nat → Nat → Nat → Prop
 | 0, s, t => prN A s = prN B t
 | k + 1, s, t => bisN A B k s t ∧ ∀ x, x < letN A.d → bisN A B k (toN A.d s x) (toN B.d t x)
def Bis (A B : Par) (s t : Nat) : Prop := ∀ k, bisN A B k s t
theorem bisN.pred {A B : Par} : ∀ {k j s t : Nat}, j ≤ k → bisN A B k s t → bisN A B j s t := by
 intro k j s t h
 induction h with
 | refl => exact id
 | step _ ih => exact fun h => ih h.1
theorem bisN.symm {A B : Par} (hv : A.vars = B.vars) : ∀ {k s t : Nat}, bisN A B k s t → bisN B A k t s
 | 0, _, _, h => Eq.symm h
 | k + 1, _, _, h => ⟨bisN.symm hv h.1, fun x hx => bisN.symm hv (h.2 x (by unfold letN at hx ⊢; show x < 2 ^ A.vars.toNat; rw [hv]; exact hx))⟩
theorem bisN.trans {A B C : Par} (hv : A.vars = B.vars) : ∀ {k s t u : Nat}, bisN A B k s t → bisN B C k t u → bisN A C k s u
 | 0, _, _, _, h, g => Eq.trans h g
 | k + 1, _, _, _, h, g => ⟨bisN.trans hv h.1 g.1, fun x hx => bisN.trans hv (h.2 x hx) (g.2 x (by unfold letN at hx ⊢; show x < 2 ^ B.vars.toNat; rw [← hv]; exact hx))⟩
theorem bisN.refl (A : Par) : ∀ k s, bisN A A k s s
 | 0, _ => rfl
 | k + 1, s => ⟨bisN.refl A k s, fun x _ => bisN.refl A k _⟩
theorem Bis.symm {A B : Par} (hv : A.vars = B.vars) {s t : Nat} (h : Bis A B s t) : Bis B A t s := fun k => (h k).symm hv
theorem Bis.trans {A B C : Par} (hv : A.vars = B.vars) {s t u : Nat} (h : Bis A B s t) (g : Bis B C t u) : Bis A C s u := fun k => (h k).trans hv (g k)
theorem Bis.refl (A : Par) (s : Nat) : Bis A A s s := fun k => bisN.refl A k s
theorem Bis.step {A B : Par} {s t x : Nat} (h : Bis A B s t) (hx : x < letN A.d) : Bis A B (toN A.d s x) (toN B.d t x) := fun k => (h (k + 1)).2 x hx
theorem Bis.pr {A B : Par} {s t : Nat} (h : Bis A B s t) : prN A s = prN B t := h 0
theorem bis_of {A B : Par} {R : Nat → Nat → Prop} (hp : ∀ s t, R s t → prN A s = prN B t) (hs : ∀ s t x, R s t → x < letN A.d → R (toN A.d s x) (toN B.d t x)) {s t : Nat} (h : R s t) : Bis A B s t := fun k => by
 induction k generalizing s t with
 | zero => exact hp s t h
 | succ k ih => exact ⟨ih h, fun x hx => ih (hs s t x h hx)⟩
theorem bis_stop {A : Par} (hv : ValidP A) {k : Nat} (h : ∀ s t, s < A.next.length → t < A.next.length → bisN A A k s t → bisN A A (k + 1) s t) {s t : Nat} (hs : s < A.next.length) (ht : t < A.next.length) (h0 : bisN A A k s t) : Bis A A s t := by
 have all : ∀ j s t, s < A.next.length → t < A.next.length → bisN A A k s t → bisN A A (k + j) s t := by
  intro j
  induction j with
  | zero => exact fun s t _ _ h => h
  | succ j ih =>
   intro s t hs ht h0
   have h1 := h s t hs ht h0
   exact ⟨ih s t hs ht h0, fun x hx => ih _ _ (hv.val.toN_lt hs hx).1 (hv.val.toN_lt ht hx).1 (h1.2 x hx)⟩
 exact fun j => (all j s t hs ht h0).pred (by omega)
def qadd (e : Nat → Nat → Bool) (l : List Nat) (t : Nat) : List Nat := if l.any (fun k => e k t) = true then l else l ++ [t]
def qfind (e : Nat → Nat → Bool) (t : Nat) : List Nat → Nat
 | [] => 0
 | k :: l => if e k t = true then 0 else qfind e t l + 1
def qM (e : Nat → Nat → Bool) (d : DFA) (l : List Nat) (s : Nat) : Nat → List Nat
 | 0 => l
 | x + 1 => qadd e (qM e d l s x) (toN d s x)
def qN (e : Nat → Nat → Bool) (d : DFA) : Nat → List Nat
 | 0 => [d.start.toNat]
 | i + 1 => if i < (qN e d i).length then qM e d (qN e d i) ((qN e d i).getD i 0) (letN d) else qN e d i
def qRow (e : Nat → Nat → Bool) (d : DFA) (l : List Nat) (s : Nat) : List Int := (List.range (letN d)).map fun x => ((qfind e (toN d s x) l : Nat) : Int)
def quoA (e : Nat → Nat → Bool) (p : Par) (l : List Nat) : Par := ⟨p.vars, 0, l.map (qRow e p.d l), l.map fun s => ((prN p s : Nat) : Int)⟩
def quoP (e : Nat → Nat → Bool) (p : Par) : Par := quoA e p (qN e p.d p.next.length)
def BisB (p : Par) (e : Nat → Nat → Bool) : Prop := ∀ s t, s < p.next.length → t < p.next.length → (e s t = true ↔ Bis p p s t)
noncomputable def bisB (p : Par) (s t : Nat) : Bool := @decide (Bis p p s t) (Classical.propDecidable _)
theorem bisB_is (p : Par) : BisB p (bisB p) := fun s t _ _ => @decide_eq_true_iff _ (Classical.propDecidable _)
theorem qadd_pre (e : Nat → Nat → Bool) (l : List Nat) (t : Nat) : l <+: qadd e l t := by unfold qadd; split; exact List.prefix_rfl; exact List.prefix_append _ _
theorem qM_pre (e : Nat → Nat → Bool) (d : DFA) (l : List Nat) (s : Nat) {x y : Nat} (h : x ≤ y) : qM e d l s x <+: qM e d l s y := by
 induction h with
 | refl => exact List.prefix_rfl
 | step _ ih => exact ih.trans (qadd_pre _ _ _)
theorem qN_step {e : Nat → Nat → Bool} {d : DFA} {i s : Nat} (h : (qN e d i)[i]? = some s) : qN e d (i + 1) = qM e d (qN e d i) s (letN d) := by
 have hi := (List.getElem?_eq_some_iff.1 h).1
 rw [qN, if_pos hi, List.getD_eq_getElem?_getD, h]; rfl
theorem qN_pre (e : Nat → Nat → Bool) (d : DFA) {i j : Nat} (h : i ≤ j) : qN e d i <+: qN e d j := by
 induction h with
 | refl => exact List.prefix_rfl
 | @step j _ ih =>
  refine ih.trans ?_
  rw [qN]; split
  ·exact qM_pre e d _ _ (Nat.zero_le _)
  ·exact List.prefix_rfl
theorem qN_stop {e : Nat → Nat → Bool} {d : DFA} {i : Nat} (h : (qN e d i).length ≤ i) : ∀ j, i ≤ j → qN e d j = qN e d i := by
 intro j hj
 induction hj with
 | refl => rfl
 | @step j hij ih =>
  rw [qN, if_neg (by rw [ih]; have : i ≤ j := hij; omega), ih]
theorem qfind_pre {e : Nat → Nat → Bool} {t : Nat} {l m : List Nat} (h : l <+: m) (ha : l.any (fun k => e k t) = true) : qfind e t m = qfind e t l := by
 obtain ⟨r, rfl⟩ := h
 induction l with
 | nil => simp at ha
 | cons k l ih =>
  rw [List.cons_append, qfind, qfind]
  by_cases hk : e k t = true
  ·rw [if_pos hk, if_pos hk]
  ·rw [if_neg hk, if_neg hk, ih (by simpa [hk] using ha)]
section
variable {p : Par} (hp : ValidP p)
include hp
theorem qM_lt (e : Nat → Nat → Bool) {l : List Nat} (hl : ∀ q ∈ l, q < p.next.length) {s : Nat} (hs : s < p.next.length) : ∀ x, x ≤ letN p.d → ∀ q ∈ qM e p.d l s x, q < p.next.length
 | 0, _, q, hq => hl q hq
 | x + 1, hx, q, hq => by
  rw [qM, qadd] at hq
  split at hq
  ·exact qM_lt e hl hs x (by omega) q hq
  ·rcases List.mem_append.1 hq with h | h
   ·exact qM_lt e hl hs x (by omega) q h
   ·rw [List.mem_singleton.1 h]; exact (hp.val.toN_lt hs (by exact hx)).1
theorem qN_lt (e : Nat → Nat → Bool) : ∀ i, ∀ q ∈ qN e p.d i, q < p.next.length
 | 0, q, hq => by rw [List.mem_singleton.1 hq]; exact hp.st
 | i + 1, q, hq => by
  by_cases h : i < (qN e p.d i).length
  ·have hg := List.getElem?_eq_getElem h
   rw [qN_step hg] at hq
   exact qM_lt hp e (qN_lt e i) (qN_lt e i _ (List.getElem_mem h)) _ (Nat.le_refl _) q hq
  ·rw [qN, if_neg h] at hq; exact qN_lt e i q hq
theorem qadd_congr {e f : Nat → Nat → Bool} (h : ∀ s t, s < p.next.length → t < p.next.length → e s t = f s t) {l : List Nat} (hl : ∀ q ∈ l, q < p.next.length) {t : Nat} (ht : t < p.next.length) : qadd e l t = qadd f l t ∧ qfind e t l = qfind f t l := by
 constructor
 ·unfold qadd
  have : l.any (fun k => e k t) = l.any (fun k => f k t) := by
   rw [Bool.eq_iff_iff, List.any_eq_true, List.any_eq_true]
   exact ⟨fun ⟨k, h1, h2⟩ => ⟨k, h1, by rw [← h k t (hl k h1) ht]; exact h2⟩, fun ⟨k, h1, h2⟩ => ⟨k, h1, by rw [h k t (hl k h1) ht]; exact h2⟩⟩
  rw [this]
 ·induction l with
  | nil => rfl
  | cons k l ih => rw [qfind, qfind, h k t (hl k (by simp)) ht, ih fun q hq => hl q (by simp [hq])]
theorem qM_congr {e f : Nat → Nat → Bool} (h : ∀ s t, s < p.next.length → t < p.next.length → e s t = f s t) {l : List Nat} (hl : ∀ q ∈ l, q < p.next.length) {s : Nat} (hs : s < p.next.length) : ∀ x, x ≤ letN p.d → qM e p.d l s x = qM f p.d l s x
 | 0, _ => rfl
 | x + 1, hx => by
  have ih := qM_congr h hl hs x (by omega)
  rw [qM, qM, ← ih]
  exact (qadd_congr hp h (qM_lt hp e hl hs x (by omega)) (hp.val.toN_lt hs hx).1).1
theorem qN_congr {e f : Nat → Nat → Bool} (h : ∀ s t, s < p.next.length → t < p.next.length → e s t = f s t) : ∀ i, qN e p.d i = qN f p.d i
 | 0 => rfl
 | i + 1 => by
  have ih := qN_congr h i
  rw [qN, qN, ← ih]
  split
  ·rename_i hi
   refine qM_congr hp h (qN_lt hp e i) ?_ _ (Nat.le_refl _)
   rw [List.getD_eq_getElem?_getD, List.getElem?_eq_getElem hi]
   exact qN_lt hp e i _ (List.getElem_mem hi)
  ·rfl
theorem quoA_congr {e f : Nat → Nat → Bool} (h : ∀ s t, s < p.next.length → t < p.next.length → e s t = f s t) {l : List Nat} (hl : ∀ q ∈ l, q < p.next.length) : quoA e p l = quoA f p l := by
 unfold quoA
 congr 1
 refine List.map_congr_left fun s hs => ?_
 unfold qRow
 refine List.map_congr_left fun x hx => ?_
 rw [(qadd_congr hp h hl (hp.val.toN_lt (hl s hs) (List.mem_range.1 hx)).1).2]
theorem quoP_congr {e f : Nat → Nat → Bool} (he : BisB p e) (hf : BisB p f) : quoP e p = quoP f p := by
 have h : ∀ s t, s < p.next.length → t < p.next.length → e s t = f s t := fun s t hs ht => by rw [Bool.eq_iff_iff, he s t hs ht, hf s t hs ht]
 unfold quoP
 rw [← qN_congr hp h]
 exact quoA_congr hp h (qN_lt hp e _)
def Apart (e : Nat → Nat → Bool) (l : List Nat) : Prop := l.Pairwise fun a b => e a b = false
omit hp in
theorem apart_qadd {e : Nat → Nat → Bool} {l : List Nat} (h : Apart e l) (t : Nat) : Apart e (qadd e l t) := by
 unfold qadd
 split
 ·exact h
 ·rename_i hn
  refine List.pairwise_append.2 ⟨h, by simp, fun a ha b hb => ?_⟩
  rw [List.mem_singleton.1 hb]
  cases hc : e a t with
  | false => rfl
  | true => exact absurd (List.any_eq_true.2 ⟨a, ha, hc⟩) hn
omit hp in
theorem apart_qM {e : Nat → Nat → Bool} {d : DFA} {l : List Nat} (h : Apart e l) (s : Nat) : ∀ x, Apart e (qM e d l s x)
 | 0 => h
 | x + 1 => apart_qadd (apart_qM h s x) _
omit hp in
theorem apart_qN (e : Nat → Nat → Bool) (d : DFA) : ∀ i, Apart e (qN e d i)
 | 0 => List.pairwise_singleton _ _
 | i + 1 => by rw [qN]; split; exact apart_qM (apart_qN e d i) _ _; exact apart_qN e d i
theorem apart_len {e : Nat → Nat → Bool} (he : BisB p e) {l : List Nat} (h : Apart e l) (hl : ∀ q ∈ l, q < p.next.length) : l.length ≤ p.next.length := by
 refine nodup_bound ?_ hl
 refine h.imp_of_mem fun {a b} ha hb hab e2 => ?_
 subst e2
 rw [(he a a (hl a ha) (hl a ha)).2 (Bis.refl p a)] at hab; cases hab
theorem qN_len {e : Nat → Nat → Bool} (he : BisB p e) (i : Nat) : (qN e p.d i).length ≤ p.next.length := apart_len hp he (apart_qN e p.d i) (qN_lt hp e i)
end
end Go.Lx


namespace Go.Lx
section
variable {p : Par} (hp : ValidP p) {e : Nat → Nat → Bool} (he : BisB p e)
include hp he
end
section
variable {A B : Par} (hA : ValidP A) (hB : ValidP B) (hv : A.vars = B.vars) {e f : Nat → Nat → Bool} (he : BisB A e) (hf : BisB B f)
include hA hB hv he hf
end
noncomputable def quV (p : Par) : Par := quoP (bisB p) p
end Go.Lx


namespace Go.Lx
def DE (d : DFA) (u v : Nat) : Prop := u < d.next.length ∧ ∃ x, x < letN d ∧ toN d u x = v
def Ins (d : DFA) (al : Nat → Bool) (v : Nat) : Prop := Rch (DE d) d.start.toNat v ∧ al v = true
def HasD (d : DFA) (al one two : Nat → Bool) : Prop := ∃ v u, Ins d al v ∧ Cmp (DE d) (Ins d al) v u ∧ Cyc (DE d) (Ins d al) v ∧ one v = true ∧ two u = true
structure FindL (d : DFA) (al one two : Nat → Bool) (pre loop : List Nat) : Prop where
 pos : 0 < loop.length
 wp : Wd d pre
 wl : Wd d loop
 back : runN d (runN d d.start.toNat pre) loop = runN d d.start.toNat pre
 al_ : ∀ v ∈ visL d (runN d d.start.toNat pre) loop, al v = true
 one : ∃ v ∈ visL d (runN d d.start.toNat pre) loop, one v = true
 two : ∃ v ∈ visL d (runN d d.start.toNat pre) loop, two v = true
 lp : pre.length ≤ d.next.length
 ll : loop.length ≤ 2 * d.next.length
def FindOk (d : DFA) (al one two : Nat → Bool) : Option La → Prop
 | none => ¬ HasD d al one two
 | some l => ∃ pre loop, FindL d al one two pre loop ∧ CanonOf ⟨pre, loop⟩ l
theorem FindL.inf {p : Par} {al one two : Nat → Bool} {pre loop : List Nat} {l : La} {k : Nat} (h : FindL p.d al one two pre loop) (hc : CanonOf ⟨pre, loop⟩ l) (hle : ∀ v, al v = true → prN p v ≤ k) (hat : (∀ v, one v = true → prN p v = k) ∨ ∀ v, two v = true → prN p v = k) : IsInf p l.at k := by
 have h1 := lasso_inf (p := p) (l := ⟨pre, loop⟩) h.pos (s0 := runN p.d p.d.start.toNat pre) (j := 0) (m := 1) rfl (by decide) (by show runN p.d _ loop = _; exact h.back)
 have h2 : topP p (runN p.d p.d.start.toNat pre) (repL loop 1) = k := by
  show topP p _ ([] ++ loop) = k
  rw [List.nil_append]
  refine (vis_isMax p _ (fun e => by have := h.pos; rw [e] at this; exact absurd this (by decide))).unique ⟨?_, fun v hv => hle v (h.al_ v hv)⟩
  rcases hat with hat | hat
  ·obtain ⟨v, hv, ho⟩ := h.one; exact ⟨v, hv, hat v ho⟩
  ·obtain ⟨v, hv, ho⟩ := h.two; exact ⟨v, hv, hat v ho⟩
 have h3 : IsInf p (⟨pre, loop⟩ : La).at k := by rw [← h2]; exact h1
 exact h3.congr fun i => (hc.at_ i).symm
theorem CanonOf.lasOk {p : Par} {pre loop : List Nat} {l : La} (hp : Wd p.d pre) (hl : Wd p.d loop) (h : CanonOf ⟨pre, loop⟩ l) : LasOk p l := ⟨h.can.pos, fun x hx => hp x (h.mp x hx), fun x hx => hl x (h.ml x hx)⟩
theorem LasOk.at {p : Par} {l : La} (h : LasOk p l) (i : Nat) : l.at i < letN p.d := by
 by_cases hi : i < l.pre.length
 ·rw [La.at_pre hi]; exact h.pre _ (List.getElem_mem hi)
 ·obtain ⟨j, rfl⟩ := Nat.exists_eq_add_of_le (show l.pre.length ≤ i by omega)
  rw [La.at_u h.pos]
  unfold La.u
  have hm := Nat.mod_lt j h.pos
  rw [List.getD_eq_getElem?_getD, List.getElem?_eq_getElem hm]
  exact h.loop _ (List.getElem_mem hm)
def prP (p q : Par) (f : Nat → Nat) : Par := ⟨p.vars, ((p.start.toNat * q.next.length + q.start.toNat : Nat) : Int), prNext p.d q.d, (List.range (p.next.length * q.next.length)).map fun v => ((f v : Nat) : Int)⟩
def prG (p q : Par) : DFA := (prP p q fun _ => 0).d
theorem prP_d (p q : Par) (f : Nat → Nat) : (prP p q f).d = prG p q := rfl
def f1 (p q : Par) (v : Nat) : Nat := prN p (v / q.next.length)
def f2 (q : Par) (v : Nat) : Nat := prN q (v % q.next.length)
def alD (p q : Par) (i j v : Nat) : Bool := decide (f1 p q v ≤ i) && decide (f2 q v ≤ j)
section
variable {p q : Par} (hp : ValidP p) (hq : ValidP q) (hv : p.vars = q.vars)
include hp hq hv
theorem prG_len : (prG p q).next.length = p.next.length * q.next.length := by
 show (prNext p.d q.d).length = _
 rw [prNext_len]; rfl
theorem prG_to {s t x : Nat} (hs : s < p.next.length) (ht : t < q.next.length) (hx : x < letN p.d) : toN (prG p q) (s * q.next.length + t) x = toN p.d s x * q.next.length + toN q.d t x := prod_step (f := fun _ _ => false) (a := p.d) (b := q.d) hs ht hx
theorem prP_valid {f : Nat → Nat} (hf : ∀ v, f v ≤ 16) (hn : p.next.length * q.next.length ≤ 4096) : ValidP (prP p q f) := by
 have hpv := prod_val (f := fun _ _ => false) hp.val hq.val hv
 have hl := prG_len hp hq hv
 refine ⟨⟨hp.val.v0, hp.val.v6, hpv.n0, by simp [Par.d], hpv.s0, hpv.s1, hpv.len, hpv.ok⟩, by show (prG p q).next.length ≤ 4096; omega, by show ((List.range _).map _).length = (prG p q).next.length; rw [hl]; simp, fun x hx => ?_⟩
 obtain ⟨v, _, rfl⟩ := List.mem_map.1 hx
 have := hf v; omega
theorem prP_pr {f : Nat → Nat} {v : Nat} (h : v < p.next.length * q.next.length) : prN (prP p q f) v = f v := by
 unfold prN prP
 rw [List.getD_eq_getElem?_getD, List.getElem?_map, List.getElem?_range h]; exact Int.toNat_natCast _
theorem pr_states {a : Nat → Nat} (ha : ∀ i, a i < letN p.d) : ∀ k, stA (prG p q) a k = stA p.d a k * q.next.length + stA q.d a k ∧ stA p.d a k < p.next.length ∧ stA q.d a k < q.next.length
 | 0 => ⟨Int.toNat_natCast _, hp.st, hq.st⟩
 | k + 1 => by
  obtain ⟨h1, h2, h3⟩ := pr_states ha k
  have hx := ha k
  have hx2 : a k < letN q.d := by unfold letN at hx ⊢; show a k < 2 ^ q.vars.toNat; rw [← hv]; exact hx
  refine ⟨?_, (hp.val.toN_lt h2 hx).1, (hq.val.toN_lt h3 hx2).1⟩
  rw [stA, h1, prG_to hp hq hv h2 h3 hx]; rfl
theorem pr_inf {a : Nat → Nat} (ha : ∀ i, a i < letN p.d) (m : Nat) : (IsInf (prP p q (f1 p q)) a m ↔ IsInf p a m) ∧ (IsInf (prP p q (f2 q)) a m ↔ IsInf q a m) := by
 have hs := pr_states hp hq hv ha
 have lt : ∀ k, stA (prG p q) a k < p.next.length * q.next.length := fun k => by
  obtain ⟨h1, h2, h3⟩ := hs k
  rw [h1]; exact pr_lt h2 h3
 have e1 : ∀ k, prN (prP p q (f1 p q)) (stA (prP p q (f1 p q)).d a k) = prN p (stA p.d a k) := fun k => by
  obtain ⟨h1, h2, h3⟩ := hs k
  rw [prP_d, prP_pr hp hq hv (lt k), h1]
  unfold f1; rw [(pr_div h3).1]
 have e2 : ∀ k, prN (prP p q (f2 q)) (stA (prP p q (f2 q)).d a k) = prN q (stA q.d a k) := fun k => by
  obtain ⟨h1, h2, h3⟩ := hs k
  rw [prP_d, prP_pr hp hq hv (lt k), h1]
  unfold f2; rw [(pr_div h3).2]
 unfold IsInf
 exact ⟨by simp only [e1], by simp only [e2]⟩
theorem diff_sound {i j : Nat} {l : La} (hne : i % 2 ≠ j % 2) (h : FindOk (prG p q) (alD p q i j) (fun v => decide (f1 p q v = i)) (fun v => decide (f2 q v = j)) (some l)) : LasOk p l ∧ infP p l.at = i ∧ infP q l.at = j := by
 obtain ⟨pre, loop, hF, hC⟩ := h
 have hwp : Wd p.d pre := hF.wp
 have hwl : Wd p.d loop := hF.wl
 have hl : LasOk p l := hC.lasOk hwp hwl
 have ha : ∀ k, l.at k < letN p.d := hl.at
 have hal : ∀ v, alD p q i j v = true → f1 p q v ≤ i ∧ f2 q v ≤ j := fun v hv => by
  unfold alD at hv
  rw [Bool.and_eq_true, decide_eq_true_eq, decide_eq_true_eq] at hv
  exact hv
 have hlen := prG_len hp hq hv
 have hgv := prod_val (f := fun _ _ => false) hp.val hq.val hv
 have hG : Val (prG p q) := ⟨hp.val.v0, hp.val.v6, hgv.n0, by simp [prG, Par.d], hgv.s0, hgv.s1, hgv.len, hgv.ok⟩
 have vis : ∀ (w : List Nat) (s : Nat), s < (prG p q).next.length → Wd (prG p q) w → ∀ u ∈ visL (prG p q) s w, u < (prG p q).next.length := by
  intro w
  induction w with
  | nil => intro s _ _ u hu; cases hu
  | cons x w ih =>
   intro s hs hw u hu
   have h1 := (hG.toN_lt hs (hw x (by simp))).1
   rcases List.mem_cons.1 hu with rfl | hu
   ·exact h1
   ·exact ih _ h1 (fun y hy => hw y (by simp [hy])) u hu
 have hs0 : runN (prG p q) (prG p q).start.toNat pre < (prG p q).next.length := runN_lt hG (start_lt hG) pre hF.wp
 have hvl := vis loop _ hs0 hF.wl
 have base : ∀ f : Nat → Nat, ∀ k, (∀ v, v < p.next.length * q.next.length → alD p q i j v = true → f v ≤ k) → (∃ v ∈ visL (prG p q) (runN (prG p q) (prG p q).start.toNat pre) loop, f v = k) → IsInf (prP p q f) l.at k := fun f k hle hex => by
  have h1 := lasso_inf (p := prP p q f) (l := ⟨pre, loop⟩) hF.pos (s0 := runN (prG p q) (prG p q).start.toNat pre) (j := 0) (m := 1) rfl (by decide) hF.back
  have h2 : topP (prP p q f) (runN (prG p q) (prG p q).start.toNat pre) (repL loop 1) = k := by
   show topP _ _ ([] ++ loop) = k
   rw [List.nil_append]
   have hne2 : loop ≠ [] := fun e => by have := hF.pos; rw [e] at this; exact absurd this (by decide)
   refine (vis_isMax (prP p q f) _ hne2).unique ⟨?_, fun v hv' => ?_⟩
   ·obtain ⟨v, hv', e⟩ := hex
    exact ⟨v, hv', by rw [prP_pr hp hq hv (by rw [← hlen]; exact hvl v hv')]; exact e⟩
   ·have hvb := hvl v hv'
    rw [prP_pr hp hq hv (by rw [← hlen]; exact hvb)]
    exact hle v (by rw [← hlen]; exact hvb) (hF.al_ v hv')
  have h3 : IsInf (prP p q f) (⟨pre, loop⟩ : La).at k := by rw [← h2]; exact h1
  exact h3.congr fun i => (hC.at_ i).symm
 have i1 := base (f1 p q) i (fun v _ h => (hal v h).1) (by obtain ⟨v, h1, h2⟩ := hF.one; exact ⟨v, h1, of_decide_eq_true h2⟩)
 have i2 := base (f2 q) j (fun v _ h => (hal v h).2) (by obtain ⟨v, h1, h2⟩ := hF.two; exact ⟨v, h1, of_decide_eq_true h2⟩)
 exact ⟨hl, infP_eq ((pr_inf hp hq hv ha i).1.1 i1), infP_eq ((pr_inf hp hq hv ha j).2.1 i2)⟩
end
theorem inf_way2 {p : Par} (h : ValidP p) {l : La} (hl : LasOk p l) : ∃ s w, s < p.next.length ∧ 0 < w.length ∧ Wd p.d w ∧ runN p.d s w = s ∧ (∃ u, Wd p.d u ∧ runN p.d p.d.start.toNat u = s) ∧ ∀ q : Par, q.d = p.d → IsInf q l.at (topP q s w) := by
 have h0 : runN p.d p.d.start.toNat l.pre < p.next.length := runN_lt h.val h.st l.pre hl.pre
 obtain ⟨j, m, hm, he, _⟩ := pigeon (fun k => orb_lt h.val hl.loop h0 k)
 refine ⟨orbN p.d l.loop _ j, repL l.loop m, orb_lt h.val hl.loop h0 j, by rw [repL_len]; exact Nat.mul_pos hm hl.pos, repL_wd hl.loop m, by rw [orb_rep, orb_add]; exact he, ⟨l.pre ++ repL l.loop j, fun x hx => (List.mem_append.1 hx).elim (hl.pre x) (repL_wd hl.loop j x), ?_⟩, fun q hq => ?_⟩
 ·unfold runN at *
  rw [List.foldl_append]
  exact orb_rep p.d l.loop _ j
 ·have := lasso_inf (p := q) hl.pos (s0 := runN q.d q.d.start.toNat l.pre) (j := j) (m := m) rfl hm (by rw [hq]; exact he)
  rw [hq] at this; exact this
theorem run_rch {p : Par} (h : ValidP p) : ∀ (w : List Nat) (s : Nat), s < p.next.length → Wd p.d w → Rch (PEd p) s (runN p.d s w)
 | [], s, _, _ => .refl s
 | x :: w, s, hs, hw => by
  have hx := hw x (by simp)
  exact .step ⟨hs, x, hx, rfl⟩ (run_rch h w _ (h.val.toN_lt hs hx).1 fun y hy => hw y (by simp [hy]))
theorem vis_rch {p : Par} (h : ValidP p) : ∀ (w : List Nat) (s : Nat), s < p.next.length → Wd p.d w → ∀ u ∈ visL p.d s w, Rch (PEd p) s u
 | [], _, _, _, u, hu => by cases hu
 | x :: w, s, hs, hw, u, hu => by
  have hx := hw x (by simp)
  have he : PEd p s (toN p.d s x) := ⟨hs, x, hx, rfl⟩
  rcases List.mem_cons.1 hu with rfl | hu
  ·exact .one he
  ·exact .step he (vis_rch h w _ (h.val.toN_lt hs hx).1 (fun y hy => hw y (by simp [hy])) u hu)
theorem diff_complete {p q : Par} (hp : ValidP p) (hq : ValidP q) (hv : p.vars = q.vars) (hn : p.next.length * q.next.length ≤ 4096) {l : La} (hl : LasOk p l) (hne : infP p l.at % 2 ≠ infP q l.at % 2) :
  ∃ i j : Nat, i % 2 ≠ j % 2 ∧ i ≤ 16 ∧ j ≤ 16 ∧ ((i : Int) ∈ p.prio) ∧ ((j : Int) ∈ q.prio) ∧ HasD (prG p q) (alD p q i j) (fun v => decide (f1 p q v = i)) (fun v => decide (f2 q v = j)) := by
 have b1 : ∀ v, f1 p q v ≤ 16 := fun v => hp.prLe _
 have b2 : ∀ v, f2 q v ≤ 16 := fun v => hq.prLe _
 have V := prP_valid hp hq hv b1 hn
 have hl2 : LasOk (prP p q (f1 p q)) l := ⟨hl.pos, hl.pre, hl.loop⟩
 obtain ⟨s, w, hs, hw0, hww, hwr, ⟨u0, hu0, hu1⟩, hI⟩ := inf_way2 V hl2
 have hlen := prG_len hp hq hv
 have ha := hl.at
 have n1 := (pr_inf hp hq hv ha _).1.1 (hI (prP p q (f1 p q)) rfl)
 have n2 := (pr_inf hp hq hv ha _).2.1 (hI (prP p q (f2 q)) rfl)
 rw [infP_eq n1, infP_eq n2] at hne
 have hwne : w ≠ [] := fun e => by rw [e] at hw0; exact absurd hw0 (by decide)
 have m1 := vis_isMax (prP p q (f1 p q)) s hwne
 have m2 := vis_isMax (prP p q (f2 q)) s hwne
 have hlp := vis_loop V hs hw0 hww hwr
 have hlt := vis_lt V w s hs hww
 have hlt2 : ∀ v, v ∈ visL (prG p q) s w → v < p.next.length * q.next.length := fun v hv' => by rw [← hlen]; exact hlt v hv'
 obtain ⟨⟨v, hv1, hv2⟩, hv3⟩ := m1
 obtain ⟨⟨u, hu2, hu3⟩, hu4⟩ := m2
 rw [prP_pr hp hq hv (hlt2 v hv1)] at hv2
 rw [prP_pr hp hq hv (hlt2 u hu2)] at hu3
 obtain ⟨i, hi⟩ : ∃ i, topP (prP p q (f1 p q)) s w = i := ⟨_, rfl⟩
 obtain ⟨j, hj⟩ : ∃ j, topP (prP p q (f2 q)) s w = j := ⟨_, rfl⟩
 rw [hi] at hne hv2 hv3
 rw [hj] at hne hu3 hu4
 have hrs : Rch (DE (prG p q)) (prG p q).start.toNat s := by
  have := run_rch V u0 _ V.st hu0
  rw [show (prP p q (f1 p q)).start.toNat = (prP p q (f1 p q)).d.start.toNat from rfl, hu1] at this
  exact this
 have hins : ∀ x, x ∈ visL (prG p q) s w → Ins (prG p q) (alD p q i j) x := fun x hx => by
  refine ⟨hrs.trans (vis_rch V w s hs hww x hx), ?_⟩
  have h1 := hv3 x hx
  have h2 := hu4 x hx
  rw [prP_pr hp hq hv (hlt2 x hx)] at h1
  rw [prP_pr hp hq hv (hlt2 x hx)] at h2
  unfold alD
  rw [decide_eq_true h1, decide_eq_true h2]; rfl
 have hc := hlp.cmp (S := Ins (prG p q) (alD p q i j)) hins hv1 hu2
 have qpos : 0 < q.next.length := hq.val.n0
 have hvd : v / q.next.length < p.next.length := (pr_split (hlt2 v hv1)).1
 have hud : u % q.next.length < q.next.length := Nat.mod_lt _ qpos
 refine ⟨i, j, hne, by rw [← hv2]; exact b1 v, by rw [← hu3]; exact b2 u, ?_, ?_, v, u, hins v hv1, hc.1, hc.2, decide_eq_true hv2, decide_eq_true hu3⟩
 ·have := hp.prAt hvd
  rw [← hv2]; exact List.mem_of_getElem? this
 ·have := hq.prAt hud
  rw [← hu3]; exact List.mem_of_getElem? this
end Go.Lx


namespace Go.Lx
abbrev St3 := Nat × Int × Nat
def SeenB (far : Bool) (frm : Nat) (st : List St3) (t : Nat) : Prop := t ∈ (st.drop 1).map (·.1) ∨ (far = false ∧ t = frm)
structure BfI (d : DFA) (al to : Nat → Bool) (frm : Nat) (far : Bool) (st : List St3) (i x : Nat) : Prop where
 h0 : st[0]? = some (frm, -1, 0)
 stp : ∀ k q, 0 < k → st[k]? = some q → ∃ (j : Nat) (p : St3), q.2.1 = (j : Int) ∧ j < k ∧ st[j]? = some p ∧ q.2.2 < letN d ∧ toN d p.1 q.2.2 = q.1 ∧ al q.1 = true ∧ to q.1 = false
 nd : ((st.drop 1).map (·.1)).Nodup
 ndf : far = false → frm ∉ (st.drop 1).map (·.1)
 lt : ∀ q ∈ st, q.1 < d.next.length
 clo : ∀ k q, st[k]? = some q → ∀ y, y < letN d → (k < i ∨ k = i ∧ y < x) → al (toN d q.1 y) = true → SeenB far frm st (toN d q.1 y)
 nto : far = false → to frm = false
structure PathR (d : DFA) (al to : Nat → Bool) (frm : Nat) (far : Bool) (w : List Nat) (t : Nat) : Prop where
 wd : Wd d w
 run : runN d frm w = t
 to_ : to t = true
 vis : ∀ v ∈ visL d frm w, al v = true
 ne : far = true → w ≠ []
 len : w.length ≤ d.next.length
section
variable {d : DFA} {al to : Nat → Bool} {frm : Nat} {far : Bool} {st : List St3} {i x : Nat}
theorem BfI.len (h : BfI d al to frm far st i x) : st.length ≤ d.next.length + 1 := by
 have h1 := nodup_bound h.nd (n := d.next.length) (fun y hy => by
  obtain ⟨q, hq, rfl⟩ := List.mem_map.1 hy
  exact h.lt q (List.mem_of_mem_drop hq))
 rw [List.length_map, List.length_drop] at h1
 omega
theorem BfI.pos (h : BfI d al to frm far st i x) : 0 < st.length := (List.getElem?_eq_some_iff.1 h.h0).1
theorem BfI.start (hf : frm < d.next.length) (hn : far = false → to frm = false) : BfI d al to frm far [(frm, -1, 0)] 0 0 where
 h0 := rfl
 stp := fun k q hk hq => by
  have := (List.getElem?_eq_some_iff.1 hq).1
  simp only [List.length_cons, List.length_nil] at this; omega
 nd := List.nodup_nil
 ndf := fun _ h => by cases h
 lt := fun q hq => by rw [List.mem_singleton.1 hq]; exact hf
 clo := fun k q _ y _ h => by omega
 nto := hn
theorem BfI.skip (h : BfI d al to frm far st i x) {q : St3} (hq : st[i]? = some q) (hs : al (toN d q.1 x) = true → SeenB far frm st (toN d q.1 x)) : BfI d al to frm far st i (x + 1) := by
 refine { h with clo := ?_ }
 intro k p hp y hy hk ha
 by_cases e : k = i ∧ y = x
 ·obtain ⟨rfl, rfl⟩ := e
  rw [hq] at hp
  obtain rfl := Option.some.inj hp
  exact hs ha
 ·exact h.clo k p hp y hy (by omega) ha
theorem SeenB.app {t : Nat} (h : SeenB far frm st t) (q : St3) : SeenB far frm (st ++ [q]) t := by
 rcases h with h | h
 ·refine .inl ?_
  cases st with
  | nil => cases h
  | cons a st => simp only [List.cons_append, List.drop_succ_cons, List.drop_zero, List.map_append] at h ⊢; exact List.mem_append_left _ h
 ·exact .inr h
theorem drop_app {st : List St3} (h : 0 < st.length) (q : St3) : ((st ++ [q]).drop 1).map (·.1) = (st.drop 1).map (·.1) ++ [q.1] := by
 cases st with
 | nil => simp at h
 | cons a st => simp
theorem BfI.push (h : BfI d al to frm far st i x) {q : St3} (hq : st[i]? = some q) (hx : x < letN d) {t : Nat} (ht : toN d q.1 x = t) (htl : t < d.next.length) (ha : al t = true) (hns : ¬ SeenB far frm st t) (hto : to t = false) : BfI d al to frm far (st ++ [(t, (i : Int), x)]) i (x + 1) := by
 have hpos := h.pos
 have hil := (List.getElem?_eq_some_iff.1 hq).1
 have hd := drop_app hpos (t, (i : Int), x)
 have old : ∀ k p, (st ++ [(t, (i : Int), x)])[k]? = some p → st[k]? = some p ∨ k = st.length ∧ p = (t, (i : Int), x) := fun k p hp => by
  by_cases hk : k < st.length
  ·rw [List.getElem?_append_left hk] at hp; exact .inl hp
  ·rw [List.getElem?_append_right (by omega)] at hp
   have hz : k - st.length = 0 := by
    have := (List.getElem?_eq_some_iff.1 hp).1
    simp only [List.length_cons, List.length_nil] at this; omega
   rw [hz] at hp
   exact .inr ⟨by omega, (Option.some.inj hp).symm⟩
 have new : ∀ k p, st[k]? = some p → (st ++ [(t, (i : Int), x)])[k]? = some p := fun k p hp => by rw [List.getElem?_append_left (List.getElem?_eq_some_iff.1 hp).1]; exact hp
 have htn : (st ++ [(t, (i : Int), x)])[st.length]? = some (t, (i : Int), x) := by rw [List.getElem?_append_right (Nat.le_refl _)]; simp
 have hseen : SeenB far frm (st ++ [(t, (i : Int), x)]) t := .inl (by rw [hd]; simp)
 refine { h0 := new 0 _ h.h0, stp := ?_, nd := ?_, ndf := ?_, lt := ?_, clo := ?_, nto := h.nto }
 ·intro k p hk hp
  rcases old k p hp with hp | ⟨rfl, rfl⟩
  ·obtain ⟨j, r, h1, h2, h3, h4, h5, h6, h7⟩ := h.stp k p hk hp
   exact ⟨j, r, h1, h2, new j r h3, h4, h5, h6, h7⟩
  ·exact ⟨i, q, rfl, hil, new i q hq, hx, ht, ha, hto⟩
 ·rw [hd]
  refine List.nodup_append.2 ⟨h.nd, by simp, fun a ha2 b hb e => hns ?_⟩
  rw [List.mem_singleton.1 hb] at e
  subst e; exact .inl ha2
 ·intro hf hm
  rw [hd] at hm
  rcases List.mem_append.1 hm with hm | hm
  ·exact h.ndf hf hm
  ·rw [List.mem_singleton] at hm
   exact hns (.inr ⟨hf, hm.symm⟩)
 ·intro p hp
  rcases List.mem_append.1 hp with hp | hp
  ·exact h.lt p hp
  ·rw [List.mem_singleton.1 hp]; exact htl
 ·intro k p hp y hy hk ha2
  rcases old k p hp with hp0 | ⟨rfl, rfl⟩
  ·by_cases e : k = i ∧ y = x
   ·obtain ⟨rfl, rfl⟩ := e
    rw [hq] at hp0
    obtain rfl := Option.some.inj hp0
    rw [ht]; exact hseen
   ·exact (h.clo k p hp0 y hy (by omega) ha2).app _
  ·omega
theorem BfI.next (h : BfI d al to frm far st i (letN d)) : BfI d al to frm far st (i + 1) 0 :=
 { h with clo := fun k p hp y hy hk ha => h.clo k p hp y hy (by omega) ha }
theorem BfI.none (h : BfI d al to frm far st st.length 0) {S : Nat → Prop} (hS : ∀ v, S v → al v = true) {t : Nat} (hto : to t = true)
  (hr : (far = false ∧ Rch (InS (DE d) S) frm t) ∨ ∃ c, InS (DE d) S frm c ∧ Rch (InS (DE d) S) c t) : False := by
 have closed : ∀ (k : Nat) (q : St3) (c : Nat), st[k]? = some q → InS (DE d) S q.1 c → SeenB far frm st c := fun k q c hq hc => by
  obtain ⟨⟨_, y, hy, rfl⟩, _, hs⟩ := hc
  exact h.clo k q hq y hy (.inl (List.getElem?_eq_some_iff.1 hq).1) (hS _ hs)
 have at_ : ∀ v, SeenB far frm st v → ∃ (k : Nat) (q : St3), st[k]? = some q ∧ q.1 = v := fun v hv => by
  rcases hv with hv | ⟨_, rfl⟩
  ·obtain ⟨q, hq, rfl⟩ := List.mem_map.1 hv
   obtain ⟨k, hk⟩ := List.mem_iff_getElem?.1 (List.mem_of_mem_drop hq)
   exact ⟨k, q, hk, rfl⟩
  ·exact ⟨0, _, h.h0, rfl⟩
 have all : ∀ u v, Rch (InS (DE d) S) u v → SeenB far frm st u → SeenB far frm st v := fun u v hr => by
  induction hr with
  | refl => exact id
  | step e _ ih =>
   intro hu
   obtain ⟨k, q, hk, rfl⟩ := at_ _ hu
   exact ih (closed k q _ hk e)
 have no : ∀ v, SeenB far frm st v → to v = false := fun v hv => by
  rcases hv with hv | ⟨hf, rfl⟩
  ·obtain ⟨q, hq, rfl⟩ := List.mem_map.1 hv
   obtain ⟨k, hk⟩ := List.mem_iff_getElem?.1 hq
   rw [List.getElem?_drop] at hk
   obtain ⟨_, _, _, _, _, _, _, _, h8⟩ := h.stp (1 + k) q (by omega) hk
   exact h8
  ·exact h.nto hf
 have hsn : SeenB far frm st t := by
  rcases hr with ⟨hf, hr⟩ | ⟨c, hc, hr⟩
  ·exact all _ _ hr (.inr ⟨hf, rfl⟩)
  ·exact all _ _ hr (closed 0 _ c h.h0 hc)
 rw [no t hsn] at hto; cases hto
structure BkP (d : DFA) (al : Nat → Bool) (st : List St3) (N k : Nat) (w : List Nat) (t : Nat) : Prop where
 at_ : ∃ q, st[k]? = some q ∧ runN d q.1 w.reverse = t ∧ ∀ v ∈ visL d q.1 w.reverse, al v = true
 wd : Wd d w.reverse
 len : w.length + k ≤ N
theorem BfI.hit (h : BfI d al to frm far st i x) {q : St3} (hq : st[i]? = some q) (hx : x < letN d) {t : Nat} (ht : toN d q.1 x = t) (ha : al t = true) : BkP d al (st ++ [(t, (i : Int), x)]) st.length st.length [] t ∧ BkP d al (st ++ [(t, (i : Int), x)]) st.length i [x] t := by
 have hil := (List.getElem?_eq_some_iff.1 hq).1
 refine ⟨⟨⟨(t, (i : Int), x), ?_, rfl, fun v hv => (by cases hv)⟩, fun y hy => (by cases hy), ?_⟩, ⟨⟨q, by rw [List.getElem?_append_left hil]; exact hq, ?_, ?_⟩, ?_, ?_⟩⟩
 ·rw [List.getElem?_append_right (Nat.le_refl _)]; simp
 ·show 0 + st.length ≤ st.length; omega
 ·simp [runN, ht]
 ·intro v hv
  simp only [List.reverse_cons, List.reverse_nil, List.nil_append, visL, List.mem_singleton] at hv
  rw [hv, ht]; exact ha
 ·intro y hy
  simp only [List.reverse_cons, List.reverse_nil, List.nil_append, List.mem_singleton] at hy
  rw [hy]; exact hx
 ·simp only [List.length_cons, List.length_nil]; omega
theorem BkP.step (h : BfI d al to frm far st i x) {N k : Nat} {e : St3} {w : List Nat} {t : Nat} (hb : BkP d al (st ++ [e]) N k w t) (hk0 : 0 < k) (hk : k < st.length) : ∃ (j : Nat) (q : St3), (st ++ [e])[k]? = some q ∧ q.2.1 = (j : Int) ∧ BkP d al (st ++ [e]) N j (w ++ [q.2.2]) t ∧ j < k := by
 obtain ⟨⟨q, hq, h1, h2⟩, h3, h4⟩ := hb
 have hq2 : st[k]? = some q := by rwa [List.getElem?_append_left hk] at hq
 obtain ⟨j, p, g1, g2, g3, g4, g5, g6, _⟩ := h.stp k q hk0 hq2
 refine ⟨j, q, hq, g1, ⟨⟨p, by rw [List.getElem?_append_left (by omega)]; exact g3, ?_, ?_⟩, ?_, ?_⟩, g2⟩
 ·rw [List.reverse_append]
  show runN d (toN d p.1 q.2.2) w.reverse = t
  rw [g5]; exact h1
 ·rw [List.reverse_append]
  intro v hv
  rcases List.mem_cons.1 (show v ∈ toN d p.1 q.2.2 :: visL d (toN d p.1 q.2.2) w.reverse from hv) with rfl | hv
  ·rw [g5]; exact g6
  ·rw [g5] at hv; exact h2 v hv
 ·intro y hy
  rw [List.reverse_append] at hy
  rcases List.mem_append.1 hy with hy | hy
  ·simp at hy; subst hy; exact g4
  ·exact h3 y hy
 ·rw [List.length_append, List.length_singleton]; omega
theorem BfI.lenHit (h : BfI d al to frm far st i x) {t : Nat} (htl : t < d.next.length) (hns : ¬ SeenB far frm st t) : st.length ≤ d.next.length := by
 have hnd : ((st.drop 1).map (·.1) ++ [t]).Nodup := List.nodup_append.2 ⟨h.nd, by simp, fun a ha b hb e => hns (by
  rw [List.mem_singleton.1 hb] at e
  subst e; exact .inl ha)⟩
 have h1 := nodup_bound hnd (n := d.next.length) (fun y hy => by
  rcases List.mem_append.1 hy with hy | hy
  ·obtain ⟨q, hq, rfl⟩ := List.mem_map.1 hy
   exact h.lt q (List.mem_of_mem_drop hq)
  ·rw [List.mem_singleton.1 hy]; exact htl)
 rw [List.length_append, List.length_map, List.length_drop, List.length_singleton] at h1
 have := h.pos
 omega
theorem BkP.done (h : BfI d al to frm far st i x) {e : St3} {w : List Nat} {t : Nat} (hb : BkP d al (st ++ [e]) st.length 0 w t) (hl : st.length ≤ d.next.length) (hw : w ≠ []) (hto : to t = true) : PathR d al to frm far w.reverse t := by
 obtain ⟨⟨q, hq, h1, h2⟩, h3, h4⟩ := hb
 rw [List.getElem?_append_left h.pos, h.h0] at hq
 obtain rfl := Option.some.inj hq
 refine ⟨h3, h1, hto, h2, fun _ e => hw (by simpa using e), ?_⟩
 rw [List.length_reverse]
 omega
end
structure PartsOk (n : Nat) (E : Nat → Nat → Prop) (S : Nat → Prop) (all : List (List Nat)) : Prop where
 sub : ∀ P ∈ all, ∀ v ∈ P, v < n ∧ S v
 ne : ∀ P ∈ all, P ≠ []
 cmp : ∀ P ∈ all, ∀ u ∈ P, ∀ v, v ∈ P ↔ Cmp E S u v
 cyc : ∀ P ∈ all, ∀ u ∈ P, Cyc E S u
 full : ∀ u, u < n → S u → Cyc E S u → ∃ P ∈ all, u ∈ P
 nd : all.flatten.Nodup
theorem PartsOk.len {n : Nat} {E : Nat → Nat → Prop} {S : Nat → Prop} {all : List (List Nat)} (h : PartsOk n E S all) : all.flatten.length ≤ n := nodup_bound h.nd fun v hv => by
 obtain ⟨P, hP, hv⟩ := List.mem_flatten.1 hv
 exact (h.sub P hP v hv).1
theorem parts_has {d : DFA} {al one two : Nat → Bool} (hd : ∀ u v, DE d u v → v < d.next.length) (hs : d.start.toNat < d.next.length) {all : List (List Nat)} (h : PartsOk d.next.length (DE d) (Ins d al) all) : HasD d al one two ↔ ∃ P ∈ all, (∃ v ∈ P, one v = true) ∧ ∃ u ∈ P, two u = true := by
 have lt : ∀ v, Ins d al v → v < d.next.length := fun v hv => Rch.closed (S := fun v => v < d.next.length) (fun u v _ e => hd u v e) hv.1 hs
 constructor
 ·rintro ⟨v, u, h1, h2, h3, h4, h5⟩
  obtain ⟨P, hP, hv⟩ := h.full v (lt v h1) h1 h3
  exact ⟨P, hP, ⟨v, hv, h4⟩, u, (h.cmp P hP v hv u).2 h2, h5⟩
 ·rintro ⟨P, hP, ⟨v, hv, h4⟩, u, hu, h5⟩
  exact ⟨v, u, (h.sub P hP v hv).2, (h.cmp P hP v hv u).1 hu, h.cyc P hP v hv, h4, h5⟩
theorem find_word {d : DFA} {al one two : Nat → Bool} {all : List (List Nat)} (hE : ∀ s w, s < d.next.length → Wd d w → runN d s w < d.next.length) (h : PartsOk d.next.length (DE d) (Ins d al) all) {P : List Nat} (hP : P ∈ all) {s : Nat} (hs : s ∈ P) (ho : one s = true)
  {pre lo back : List Nat} {t : Nat} (h1 : PathR d (fun _ => true) (fun u => decide (u = s)) d.start.toNat false pre s) (h2 : PathR d (fun u => decide (u ∈ P)) two s false lo t) (h3 : PathR d (fun u => decide (u ∈ P)) (fun u => decide (u = s)) t (decide (t = s)) back s) : FindL d al one two pre (lo ++ back) := by
 have hrun : runN d s (lo ++ back) = s := by
  unfold runN
  rw [List.foldl_append]
  have e1 := h2.run
  have e2 := h3.run
  unfold runN at e1 e2
  rw [e1, e2]
 have hbk : back ≠ [] := by
  by_cases e : t = s
  ·exact h3.ne (by simp [e])
  ·intro hb
   have := h3.run
   rw [hb] at this
   exact e this
 have hvis : ∀ v ∈ visL d s (lo ++ back), v ∈ P := fun v hv => by
  rw [visL_app] at hv
  rcases List.mem_append.1 hv with hv | hv
  ·exact of_decide_eq_true (h2.vis v hv)
  ·rw [h2.run] at hv; exact of_decide_eq_true (h3.vis v hv)
 have last : ∀ (w : List Nat) (a : Nat), w ≠ [] → runN d a w ∈ visL d a w := fun w a hw => by
  have hl : 0 < w.length := List.length_pos_iff.2 hw
  have := visL_get d w a (w.length - 1) (by omega)
  rw [show w.length - 1 + 1 = w.length by omega, List.take_of_length_le (Nat.le_refl _)] at this
  exact List.mem_of_getElem? this
 have hsl : s ∈ visL d s (lo ++ back) := by
  rw [visL_app, h2.run]
  have := last back t hbk
  rw [h3.run] at this
  exact List.mem_append_right _ this
 have htl : t ∈ visL d s (lo ++ back) := by
  by_cases e : lo = []
  ·have := h2.run
   rw [e] at this
   have e2 : s = t := this
   rw [← e2]; exact hsl
  ·rw [visL_app]
   have := last lo s e
   rw [h2.run] at this
   exact List.mem_append_left _ this
 have hl1 := h2.len
 have hl2 := h3.len
 refine { pos := by rw [List.length_append]; have := List.length_pos_iff.2 hbk; omega, wp := h1.wd, wl := fun x hx => (List.mem_append.1 hx).elim (h2.wd x) (h3.wd x), back := by rw [h1.run]; exact hrun, al_ := ?_, one := ?_, two := ?_, lp := h1.len, ll := by rw [List.length_append]; omega }
 ·rw [h1.run]; exact fun v hv => ((h.sub P hP v (hvis v hv)).2).2
 ·rw [h1.run]; exact ⟨s, hsl, ho⟩
 ·rw [h1.run]; exact ⟨t, htl, h2.to_⟩
theorem part_ways {d : DFA} {al : Nat → Bool} {all : List (List Nat)} (h : PartsOk d.next.length (DE d) (Ins d al) all) {P : List Nat} (hP : P ∈ all) {s t : Nat} (hs : s ∈ P) (ht : t ∈ P) : ∃ c, InS (DE d) (fun u => u ∈ P) s c ∧ Rch (InS (DE d) fun u => u ∈ P) c t := by
 have hl := Cmp.loop (E := DE d) (S := Ins d al) (v := s) (h.sub P hP s hs).2 (h.cyc P hP s hs)
 have e : Cmp (DE d) (Ins d al) s = fun u => u ∈ P := funext fun u => propext (h.cmp P hP s hs u).symm
 rw [e] at hl
 exact hl.2 s t hs ht
def oneP (v : Int) : Par := ⟨v, 0, [List.replicate (2 ^ v.toNat) 0], [1]⟩
def differP (p q : Par) : Prop := ∃ i j : Nat, i % 2 ≠ j % 2 ∧ i ≤ 16 ∧ j ≤ 16 ∧ ((i : Int) ∈ p.prio) ∧ ((j : Int) ∈ q.prio) ∧ HasD (prG p q) (alD p q i j) (fun v => decide (f1 p q v = i)) (fun v => decide (f2 q v = j))
def alW (p : Par) (k v : Nat) : Bool := decide (prN p v ≤ k)
def topW (p : Par) (k v : Nat) : Bool := decide (prN p v = k)
def witP (p : Par) : Prop := ∃ k, k % 2 = 0 ∧ k ≤ 16 ∧ HasD p.d (alW p k) (topW p k) (topW p k)
theorem oneP_valid {v : Int} (h0 : 0 ≤ v) (h6 : v ≤ 6) : ValidP (oneP v) := by
 refine ⟨⟨h0, h6, Nat.succ_pos _, rfl, Int.le_refl _, by show (0 : Int) < 1; decide, fun r hr => ?_, fun r hr x hx => ?_⟩, by show 1 ≤ 4096; decide, rfl, fun x hx => ?_⟩
 ·rw [List.mem_singleton.1 hr]; simp [Par.d, oneP]
 ·rw [List.mem_singleton.1 hr] at hx
  obtain ⟨_, rfl⟩ := List.mem_replicate.1 hx
  exact ⟨Int.le_refl _, by show (0 : Int) < 1; decide⟩
 ·rw [List.mem_singleton.1 hx]; decide
theorem one_to (v : Int) (x : Nat) : toN (oneP v).d 0 x = 0 := by
 show ((([List.replicate (2 ^ v.toNat) (0 : Int)] : List (List Int)).getD 0 []).getD x 0).toNat = 0
 simp only [List.getD_cons_zero]
 rw [List.getD_eq_getElem?_getD, List.getElem?_replicate]
 split <;> rfl
theorem one_G {p : Par} (hp : ValidP p) : prG p (oneP p.vars) = p.d := by
 have hn : prNext p.d (oneP p.vars).d = p.next := by
  apply List.ext_getElem (by rw [prNext_len]; show p.next.length * 1 = _; omega)
  intro s h1 h2
  have hl : p.next[s].length = letN p.d := hp.val.len _ (List.getElem_mem h2)
  have hg := prNext_at (a := p.d) (b := (oneP p.vars).d) (s := s) (t := 0) h2 (by show 0 < 1; decide)
  rw [show (oneP p.vars).d.next.length = 1 from rfl, Nat.mul_one, Nat.add_zero, List.getElem?_eq_getElem h1] at hg
  rw [Option.some.inj hg]
  apply List.ext_getElem (by rw [prRow_len, hl])
  intro x h3 h4
  have hx : x < letN p.d := by rw [← hl]; exact h4
  have := prRow_at (a := p.d) (b := (oneP p.vars).d) (s := s) (t := 0) hx
  rw [List.getElem?_eq_getElem h3] at this
  have e := Option.some.inj this
  rw [e, one_to, show (oneP p.vars).d.next.length = 1 from rfl, Nat.mul_one, Nat.add_zero]
  obtain ⟨_, _, _, h5⟩ := hp.val.toN_lt h2 hx
  exact h5.symm
 have hs : (prP p (oneP p.vars) fun _ => 0).start = p.start := by
  show ((p.start.toNat * 1 + 0 : Nat) : Int) = p.start
  rw [Nat.mul_one, Nat.add_zero, Int.toNat_of_nonneg (show 0 ≤ p.start from hp.val.s0)]
 show (⟨p.vars, (prP p (oneP p.vars) fun _ => 0).start, prNext p.d (oneP p.vars).d, List.replicate (prNext p.d (oneP p.vars).d).length false⟩ : DFA) = ⟨p.vars, p.start, p.next, List.replicate p.next.length false⟩
 rw [hs, hn]
theorem wit_iff {p : Par} (hp : ValidP p) : differP p (oneP p.vars) ↔ witP p := by
 have hf : ∀ v, f1 p (oneP p.vars) v = prN p v := fun v => by unfold f1; rw [show (oneP p.vars).next.length = 1 from rfl, Nat.div_one]
 have hg : ∀ v, f2 (oneP p.vars) v = 1 := fun v => by unfold f2; rw [show (oneP p.vars).next.length = 1 from rfl, Nat.mod_one]; rfl
 have hlt : ∀ v, Ins p.d (fun _ => true) v → v < p.next.length := fun v hv => Rch.closed (S := fun v => v < p.next.length) (fun u v _ e => (show PEd p u v from e).lt hp) hv.1 hp.st
 constructor
 ·rintro ⟨i, j, h1, h2, h3, h4, h5, h6⟩
  have hj : j = 1 := by
   have := List.mem_singleton.1 (show (j : Int) ∈ [(1 : Int)] from h5); omega
  subst hj
  rw [one_G hp] at h6
  refine ⟨i, by omega, h2, ?_⟩
  obtain ⟨v, u, a1, a2, a3, a4, _⟩ := h6
  have a4 : topW p i v = true := by have a5 : decide (f1 p (oneP p.vars) v = i) = true := a4; rw [hf] at a5; exact a5
  have hal : alD p (oneP p.vars) i 1 = alW p i := funext fun v => by unfold alD alW; rw [hf, hg]; simp
  rw [hal] at a1 a2 a3
  exact ⟨v, v, a1, Cmp.refl a1, a3, a4, a4⟩
 ·rintro ⟨k, h1, h2, v, u, a1, a2, a3, a4, a5⟩
  have hv : v < p.next.length := hlt v ⟨a1.1, rfl⟩
  refine ⟨k, 1, by omega, h2, by decide, ?_, by simp [oneP], ?_⟩
  ·have := hp.prAt hv
   rw [of_decide_eq_true (show decide (prN p v = k) = true from a4)] at this
   exact List.mem_of_getElem? this
  ·rw [one_G hp]
   have hal : alD p (oneP p.vars) k 1 = alW p k := funext fun v => by unfold alD alW; rw [hf, hg]; simp
   rw [hal]
   exact ⟨v, u, a1, a2, a3, by show decide (f1 p (oneP p.vars) v = k) = true; rw [hf]; exact a4, by show decide (f2 (oneP p.vars) u = 1) = true; rw [hg]; rfl⟩
end Go.Lx


namespace Go.Lx
open Go.RowKit
def EA (d : DFA) (al : Nat → Bool) : Nat → Nat → Prop := InS (DE d) fun v => al v = true
def nxA (d : DFA) (al : Nat → Bool) (v : Nat) : List Nat := ((List.range (letN d)).map (toN d v)).filter al
def kA (d : DFA) (al : Nat → Bool) (v x : Nat) : Nat := (((List.range x).map (toN d v)).filter al).length
theorem kA_split {d : DFA} {al : Nat → Bool} {v x : Nat} (hx : x < letN d) : nxA d al v = ((List.range x).map (toN d v)).filter al ++ (([toN d v x]).filter al ++ (((List.range (letN d)).map (toN d v)).drop (x + 1)).filter al) := by
 have hl : x < ((List.range (letN d)).map (toN d v)).length := by simpa using hx
 have e1 : ((List.range (letN d)).map (toN d v)).take x = (List.range x).map (toN d v) := by
  rw [← List.map_take, List.take_range, Nat.min_eq_left (by omega)]
 have e2 := (List.take_append_drop x ((List.range (letN d)).map (toN d v))).symm
 rw [List.drop_eq_getElem_cons hl, e1] at e2
 have e3 : ((List.range (letN d)).map (toN d v))[x] = toN d v x := by simp
 rw [e3] at e2
 unfold nxA
 rw [← List.filter_append, ← List.filter_append]
 exact congrArg (List.filter al) e2
theorem kA_hit {d : DFA} {al : Nat → Bool} {v x : Nat} (hx : x < letN d) (ha : al (toN d v x) = true) : ∃ h : kA d al v x < (nxA d al v).length, (nxA d al v)[kA d al v x] = toN d v x := by
 have e := kA_split (al := al) (v := v) hx
 rw [show ([toN d v x]).filter al = [toN d v x] by simp [ha]] at e
 have h : kA d al v x < (nxA d al v).length := by rw [e]; simp [kA]
 refine ⟨h, ?_⟩
 have h2 : (nxA d al v)[kA d al v x]? = some (toN d v x) := by
  rw [e]; unfold kA; rw [List.getElem?_append_right (Nat.le_refl _)]; simp
 rw [List.getElem?_eq_getElem h] at h2
 exact Option.some.inj h2
theorem kA_yes {d : DFA} {al : Nat → Bool} {v x : Nat} (ha : al (toN d v x) = true) : kA d al v (x + 1) = kA d al v x + 1 := by
 unfold kA; rw [List.range_succ, List.map_append, List.filter_append]; simp [ha]
theorem kA_no {d : DFA} {al : Nat → Bool} {v x : Nat} (ha : al (toN d v x) = false) : kA d al v (x + 1) = kA d al v x := by
 unfold kA; rw [List.range_succ, List.map_append, List.filter_append]; simp [ha]
theorem kA_end (d : DFA) (al : Nat → Bool) (v : Nat) : kA d al v (letN d) = (nxA d al v).length := rfl
theorem nxA_of {d : DFA} {al : Nat → Bool} {v u : Nat} (h : EA d al v u) : u ∈ nxA d al v := by
 obtain ⟨⟨_, x, hx, rfl⟩, _, hu⟩ := h
 exact List.mem_filter.2 ⟨List.mem_map.2 ⟨x, List.mem_range.2 hx, rfl⟩, hu⟩
structure PInv (E : Nat → Nat → Prop) (comp : Nat → Int) (cnt : Nat) (all : List (List Nat)) : Prop where
 p1 : ∀ P ∈ all, ∃ c : Nat, c < cnt ∧ ∀ x, x ∈ P ↔ comp x = (c : Int)
 p2 : ∀ P ∈ all, (∃ a b, a ∈ P ∧ b ∈ P ∧ a ≠ b) ∨ ∃ v, v ∈ P ∧ E v v
 ne : ∀ P ∈ all, P ≠ []
 p3 : ∀ x, 0 ≤ comp x → (∃ P ∈ all, x ∈ P) ∨ (¬ E x x ∧ ∀ y, comp y = comp x → y = x)
 nd : all.flatten.Nodup
theorem PInv.zero (E : Nat → Nat → Prop) : PInv E (fun _ => -1) 0 [] :=
 ⟨fun P h => (List.not_mem_nil h).elim, fun P h => (List.not_mem_nil h).elim, fun P h => (List.not_mem_nil h).elim, fun x h => absurd h (by decide), List.nodup_nil⟩
theorem PInv.pop {E : Nat → Nat → Prop} {comp comp2 : Nat → Int} {cnt : Nat} {all : List (List Nat)} (h : PInv E comp cnt all) (hlt : ∀ x, comp x < cnt) {v : Nat} {t : List Nat} (hnd : (v :: t).Nodup) (hm : ∀ x ∈ v :: t, comp x < 0)
  (hc : ∀ x, comp2 x = if x ∈ v :: t then (cnt : Int) else comp x) {b : Bool} (hb : b = true ↔ E v v ∨ 1 < (v :: t).length) : PInv E comp2 (cnt + 1) (if b = true then all ++ [v :: t] else all) := by
 have old : ∀ P ∈ all, ∃ c : Nat, c < cnt + 1 ∧ ∀ x, x ∈ P ↔ comp2 x = (c : Int) := fun P hP => by
  obtain ⟨c, h1, h2⟩ := h.p1 P hP
  refine ⟨c, by omega, fun x => ?_⟩
  rw [h2 x, hc x]
  by_cases e : x ∈ v :: t
  ·rw [if_pos e]; have := hm x e; omega
  ·rw [if_neg e]
 have disj : ∀ P ∈ all, ∀ x ∈ P, x ∉ v :: t := fun P hP x hx hm2 => by
  obtain ⟨c, h1, h2⟩ := h.p1 P hP
  have := (h2 x).1 hx
  have := hm x hm2; omega
 have keep : ∀ x, x ∉ v :: t → 0 ≤ comp2 x → (∃ P ∈ all, x ∈ P) ∨ (¬ E x x ∧ ∀ y, comp2 y = comp2 x → y = x) := fun x hx h0 => by
  rw [hc x, if_neg hx] at h0
  rcases h.p3 x h0 with g | ⟨g1, g2⟩
  ·exact .inl g
  ·refine .inr ⟨g1, fun y hy => ?_⟩
   rw [hc x, if_neg hx, hc y] at hy
   by_cases e : y ∈ v :: t
   ·rw [if_pos e] at hy; have := hlt x; omega
   ·rw [if_neg e] at hy; exact g2 y hy
 by_cases e : b = true
 ·rw [if_pos e]
  refine ⟨fun P hP => ?_, fun P hP => ?_, fun P hP => ?_, fun x h0 => ?_, ?_⟩
  ·rcases List.mem_append.1 hP with hP | hP
   ·exact old P hP
   ·rw [List.mem_singleton.1 hP]
    refine ⟨cnt, by omega, fun x => ?_⟩
    rw [hc x]
    by_cases e : x ∈ v :: t
    ·rw [if_pos e]; simp [e]
    ·rw [if_neg e]; have := hlt x
     exact ⟨fun g => absurd g e, fun g => by omega⟩
  ·rcases List.mem_append.1 hP with hP | hP
   ·exact h.p2 P hP
   ·rw [List.mem_singleton.1 hP]
    rcases hb.1 e with g | g
    ·exact .inr ⟨v, List.mem_cons_self, g⟩
    ·cases t with
     | nil => simp at g
     | cons w t => exact .inl ⟨v, w, List.mem_cons_self, List.mem_cons_of_mem _ List.mem_cons_self, fun e2 => by
       subst e2; exact (List.nodup_cons.1 hnd).1 List.mem_cons_self⟩
  ·rcases List.mem_append.1 hP with hP | hP
   ·exact h.ne P hP
   ·rw [List.mem_singleton.1 hP]; simp
  ·by_cases e2 : x ∈ v :: t
   ·exact .inl ⟨v :: t, List.mem_append_right _ (List.mem_singleton.2 rfl), e2⟩
   ·rcases keep x e2 h0 with ⟨P, hP, hx⟩ | g
    ·exact .inl ⟨P, List.mem_append_left _ hP, hx⟩
    ·exact .inr g
  ·rw [List.flatten_append, List.flatten_singleton]
   refine List.nodup_append.2 ⟨h.nd, hnd, fun x hx y hy e2 => ?_⟩
   subst e2
   obtain ⟨P, hP, hx⟩ := List.mem_flatten.1 hx
   exact disj P hP x hx hy
 ·rw [if_neg e]
  have hno : ¬ (E v v ∨ 1 < (v :: t).length) := fun g => e (hb.2 g)
  have ht : t = [] := by
   cases t with
   | nil => rfl
   | cons w t => exact absurd (.inr (by simp)) hno
  subst ht
  refine ⟨old, h.p2, h.ne, fun x h0 => ?_, h.nd⟩
  by_cases e2 : x ∈ [v]
  ·have e3 := List.mem_singleton.1 e2
   subst e3
   refine .inr ⟨fun g => hno (.inl g), fun y hy => ?_⟩
   rw [hc x, if_pos e2, hc y] at hy
   by_cases e4 : y ∈ [x]
   ·exact List.mem_singleton.1 e4
   ·rw [if_neg e4] at hy; have := hlt y; omega
  ·exact keep x e2 h0
theorem parts_ok {n : Nat} {E : Nat → Nat → Prop} {S : Nat → Prop} (hE : ∀ u v, E u v → u < n ∧ v < n) {s : TS} {all : List (List Nat)} (h : TInv n (InS E S) [] s) (hv : ∀ v, v < n → S v → s.idx v ≠ 0) (ha : ∀ v, s.idx v ≠ 0 → S v) (hp : PInv (InS E S) s.comp s.cnt all) : PartsOk n E S all := by
 have pos : ∀ v, s.idx v ≠ 0 → 0 ≤ s.comp v := fun v hn => by
  by_cases hc : s.comp v < 0
  ·obtain ⟨g, hg, _⟩ := h.dn v ((h.mem v).2 ⟨hn, hc⟩); cases hg
  ·omega
 have mono : ∀ u v, Rch (InS E S) u v → 0 ≤ s.comp u → 0 ≤ s.comp v ∧ s.comp v ≤ s.comp u := fun u v hr => by
  induction hr with
  | refl => exact fun h0 => ⟨h0, Int.le_refl _⟩
  | step e _ ih =>
   intro h0
   have h1 := h.clo _ _ h0 e
   have h2 := ih h1.1
   exact ⟨h2.1, by omega⟩
 have first : ∀ u w, u ≠ w → Rch (InS E S) u w → Rch (InS E S) w u → Cyc E S u := fun u w hne h1 h2 => by
  cases h1 with
  | refl => exact absurd rfl hne
  | step e r => exact ⟨_, e, r.trans h2⟩
 have inP : ∀ P ∈ all, ∀ v ∈ P, 0 ≤ s.comp v := fun P hP v hv => by
  obtain ⟨c, _, h2⟩ := hp.p1 P hP
  rw [(h2 v).1 hv]; omega
 have same : ∀ P ∈ all, ∀ u ∈ P, ∀ v, v ∈ P ↔ s.comp v = s.comp u := fun P hP u hu v => by
  obtain ⟨c, _, h2⟩ := hp.p1 P hP
  rw [h2 v, (h2 u).1 hu]
 refine ⟨fun P hP v hm => ?_, hp.ne, fun P hP u hu v => ?_, fun P hP u hu => ?_, fun u hn hS hc => ?_, hp.nd⟩
 ·have h1 := (h.cmp v (inP P hP v hm)).1
  exact ⟨h.vis v h1, ha v h1⟩
 ·rw [same P hP u hu v]
  have hu0 := inP P hP u hu
  constructor
  ·intro e
   exact ⟨ha v (h.cmp v (by omega)).1, h.cls u v hu0 e.symm, h.cls v u (by omega) e⟩
  ·rintro ⟨_, h1, h2⟩
   have h3 := mono u v h1 hu0
   have h4 := mono v u h2 h3.1
   omega
 ·have hu0 := inP P hP u hu
  have both : ∀ w ∈ P, Rch (InS E S) u w ∧ Rch (InS E S) w u := fun w hw => by
   have e := (same P hP u hu w).1 hw
   exact ⟨h.cls u w hu0 e.symm, h.cls w u (by omega) e⟩
  rcases hp.p2 P hP with ⟨a, b, h1, h2, h3⟩ | ⟨v, h1, h2⟩
  ·by_cases e : u = a
   ·have hb := both b h2
    exact first u b (by rw [e]; exact h3) hb.1 hb.2
   ·have hb := both a h1
    exact first u a e hb.1 hb.2
  ·by_cases e : u = v
   ·subst e; exact ⟨u, h2, .refl _⟩
   ·have hb := both v h1
    exact first u v e hb.1 hb.2
 ·have h0 := pos u (hv u hn hS)
  rcases hp.p3 u h0 with g | ⟨g1, g2⟩
  ·exact g
  ·obtain ⟨c, e, r⟩ := hc
   have h1 := h.clo u c h0 e
   have h2 := mono c u r h1.1
   have := g2 c (by omega)
   subst this
   exact absurd e g1
structure CL where
 idx : List Nat
 low : List Nat
 dn : List Bool
 stk : List Nat
 clk : Nat
 all : List (List Nat)
 comp : Nat → Int
 cnt : Nat
def CL.ts (s : CL) : TS := ⟨fn s.idx, fn s.low, s.comp, s.stk, s.clk, s.cnt⟩
structure CLok (d : DFA) (al : Nat → Bool) (s : CL) : Prop where
 li : s.idx.length = d.next.length
 ll : s.low.length = d.next.length
 ld : s.dn.length = d.next.length
 ck : s.clk + s.idx.count 0 = d.next.length
 sk : s.stk.length ≤ s.clk
 dn : ∀ x, x < d.next.length → s.dn.getD x false = decide (0 ≤ s.comp x)
 alw : ∀ x, s.idx.getD x 0 ≠ 0 → al x = true
 prt : PInv (EA d al) s.comp s.cnt s.all
structure CDone (d : DFA) (al : Nat → Bool) (gray : List Nat) (s : CL) (v : Nat) (s' : CL) (t : List Nat) : Prop where
 ok : CLok d al s'
 inv : TInv d.next.length (EA d al) gray s'.ts
 ext : TExt s.ts s'.ts t
 post : VPost (EA d al) s.ts s'.ts t v
 lt : s'.idx.count 0 < s.idx.count 0
structure CRun (d : DFA) (al : Nat → Bool) (gray : List Nat) (s0 : CL) (v x : Nat) (s : CL) (t : List Nat) : Prop where
 ok : CLok d al s
 lp : VLoop d.next.length (EA d al) gray s0.ts v (nxA d al v) (kA d al v x) s.ts t
 lt : s.idx.count 0 < s0.idx.count 0
theorem countY_set0 {l : List Nat} {v a : Nat} (h : v < l.length) (h0 : l[v] = 0) (ha : a ≠ 0) : (l.set v a).count 0 + 1 = l.count 0 := by
 rw [List.count_set h, h0]
 have : 0 < l.count 0 := List.count_pos_iff.2 (by rw [← h0]; exact List.getElem_mem h)
 have ha' : (a == 0) = false := by simpa using ha
 simp [ha']; omega
section
variable {d : DFA} {al : Nat → Bool} {gray : List Nat} {s0 s : CL} {v x : Nat} {t : List Nat}
theorem CRun.enter (hok : CLok d al s) (h : TInv d.next.length (EA d al) gray s.ts) (hn : v < d.next.length) (hv : s.idx[v]'(by rw [hok.li]; exact hn) = 0) (hav : al v = true) (hg : ∀ g ∈ gray, Rch (EA d al) g v) :
  CRun d al gray s v 0 { s with idx := s.idx.set v (s.clk + 1), low := s.low.set v (s.clk + 1), stk := s.stk ++ [v], clk := s.clk + 1 } [] := by
 have hvi : v < s.idx.length := by rw [hok.li]; exact hn
 have hc := countY_set0 hvi hv (a := s.clk + 1) (by omega)
 have h0 : s.ts.idx v = 0 := (fn_get hvi).trans hv
 have hck := hok.ck
 have hsk := hok.sk
 refine ⟨⟨by simp [hok.li], by simp [hok.ll], hok.ld, ?_, ?_, hok.dn, fun y hy => ?_, hok.prt⟩, ?_, ?_⟩
 ·show s.clk + 1 + (s.idx.set v (s.clk + 1)).count 0 = d.next.length; omega
 ·show (s.stk ++ [v]).length ≤ s.clk + 1; rw [List.length_append]; simpa using hsk
 ·have e := fn_set (a := s.clk + 1) hvi y
  by_cases e2 : y = v
  ·rw [e2]; exact hav
  ·rw [if_neg e2] at e
   exact hok.alw y (by rw [← show (s.idx.set v (s.clk + 1)).getD y 0 = s.idx.getD y 0 from e]; exact hy)
 ·exact VLoop.enter h h0 hn hg (fun x => fn_set hvi x) (fun x => fn_set (by rw [hok.ll]; exact hn) x) (by
   by_cases hcn : s.ts.comp v < 0
   ·exact hcn
   ·exact absurd h0 (h.cmp v (by omega)).1) (fun _ => rfl)
 ·show (s.idx.set v (s.clk + 1)).count 0 < _; omega
theorem CRun.no (h : CRun d al gray s0 v x s t) (ha : al (toN d v x) = false) : CRun d al gray s0 v (x + 1) s t := ⟨h.ok, by rw [kA_no ha]; exact h.lp, h.lt⟩
theorem EA_of (hv : v < d.next.length) (hx : x < letN d) (hav : al v = true) (ha : al (toN d v x) = true) : EA d al v (toN d v x) := ⟨⟨hv, x, hx, rfl⟩, hav, ha⟩
theorem CRun.skip (h : CRun d al gray s0 v x s t) (h0 : TInv d.next.length (EA d al) gray s0.ts) (hx : x < letN d) (hun : toN d v x < d.next.length) (ha : al (toN d v x) = true) (hi : s.idx.getD (toN d v x) 0 ≠ 0) (hc : s.dn.getD (toN d v x) false = true) : CRun d al gray s0 v (x + 1) s t := by
 obtain ⟨h1, h2⟩ := kA_hit hx ha
 rw [h.ok.dn _ hun] at hc
 exact ⟨h.ok, by rw [kA_yes ha]; exact h.lp.stepSkip h1 h2 hi (of_decide_eq_true hc) h0, h.lt⟩
theorem CRun.back (h : CRun d al gray s0 v x s t) (h0 : TInv d.next.length (EA d al) gray s0.ts) (hv : v < d.next.length) (hav : al v = true) (hx : x < letN d) (hun : toN d v x < d.next.length) (ha : al (toN d v x) = true) (hi : s.idx.getD (toN d v x) 0 ≠ 0) (hc : s.dn.getD (toN d v x) false = false) {a : Nat} (hm : a = min (s.low.getD v 0) (s.idx.getD (toN d v x) 0)) :
  CRun d al gray s0 v (x + 1) { s with low := s.low.set v a } t := by
 obtain ⟨h1, h2⟩ := kA_hit hx ha
 rw [h.ok.dn _ hun] at hc
 refine ⟨⟨h.ok.li, by simp [h.ok.ll], h.ok.ld, h.ok.ck, h.ok.sk, h.ok.dn, h.ok.alw, h.ok.prt⟩, ?_, h.lt⟩
 rw [kA_yes ha]
 exact h.lp.stepBack h1 h2 (EA_of hv hx hav ha) hi (by have := of_decide_eq_false hc; show s.comp _ < 0; omega) h0 (fun y => by subst hm; exact fn_set (by rw [h.ok.ll]; exact hv) y)
theorem CRun.tree (h : CRun d al gray s0 v x s t) (h0 : TInv d.next.length (EA d al) gray s0.ts) (hv : v < d.next.length) (hav : al v = true) (hx : x < letN d) (ha : al (toN d v x) = true) (hi : s.idx.getD (toN d v x) 0 = 0) {s' : CL} {t2 : List Nat} (hd' : CDone d al (gray ++ [v]) s (toN d v x) s' t2) {a : Nat} (hm : a = min (s'.low.getD v 0) (s'.low.getD (toN d v x) 0)) :
  CRun d al gray s0 v (x + 1) { s' with low := s'.low.set v a } (t ++ t2) := by
 obtain ⟨h1, h2⟩ := kA_hit hx ha
 have := h.lt; have := hd'.lt
 refine ⟨⟨hd'.ok.li, by simp [hd'.ok.ll], hd'.ok.ld, hd'.ok.ck, hd'.ok.sk, hd'.ok.dn, hd'.ok.alw, hd'.ok.prt⟩, ?_, by show s'.idx.count 0 < _; omega⟩
 rw [kA_yes ha]
 exact h.lp.stepTree h1 h2 (EA_of hv hx hav ha) hi h0 hd'.inv hd'.ext hd'.post (fun y => by subst hm; exact fn_set (by rw [hd'.ok.ll]; exact hv) y)
theorem CRun.child (hg : ∀ g ∈ gray, Rch (EA d al) g v) (hv : v < d.next.length) (hav : al v = true) (hx : x < letN d) (ha : al (toN d v x) = true) : ∀ g ∈ gray ++ [v], Rch (EA d al) g (toN d v x) := fun g hm => by
 have hE := EA_of hv hx hav ha
 rcases List.mem_append.1 hm with hm | hm
 ·exact (hg g hm).tail hE
 ·simp at hm; subst hm; exact .one hE
theorem CRun.leave (h : CRun d al gray s0 v x s t) (h0 : TInv d.next.length (EA d al) gray s0.ts) (hx : x = letN d) (hne : s.low.getD v 0 ≠ s.idx.getD v 0) : CDone d al gray s0 v s (v :: t) := by
 obtain ⟨h1, h2, h3⟩ := h.lp.leave h0 (by rw [hx, kA_end]; exact Nat.le_refl _) (fun u hu => nxA_of hu) hne
 exact ⟨h.ok, h1, h2, h3, h.lt⟩
theorem CRun.few (h : CRun d al gray s0 v x s t) : s.all.length ≤ d.next.length := by
 have h1 : s.all.flatten.length ≤ d.next.length := nodup_bound h.ok.prt.nd fun u hu => by
  obtain ⟨P, hP, hu⟩ := List.mem_flatten.1 hu
  obtain ⟨c, _, h2⟩ := h.ok.prt.p1 P hP
  have hc : 0 ≤ s.comp u := by rw [(h2 u).1 hu]; omega
  exact h.lp.inv.vis u (h.lp.inv.cmp u hc).1
 have h2 : ∀ l : List (List Nat), (∀ P ∈ l, P ≠ []) → l.length ≤ l.flatten.length := by
  intro l
  induction l with
  | nil => intro _; exact Nat.le_refl _
  | cons P l ih =>
   intro hl
   have h3 := List.length_pos_iff.2 (hl P List.mem_cons_self)
   have h4 := ih fun Q hQ => hl Q (List.mem_cons_of_mem _ hQ)
   rw [List.flatten_cons, List.length_append, List.length_cons]; omega
 exact Nat.le_trans (h2 _ h.ok.prt.ne) h1
theorem CRun.stkv (h : CRun d al gray s0 v x s t) : s.stk = s0.stk ++ v :: t := h.lp.stk
theorem CRun.nd (h : CRun d al gray s0 v x s t) : (v :: t).Nodup := by
 have h1 := h.lp.inv.srt
 rw [show s.ts.stk = s0.stk ++ v :: t from h.lp.stk] at h1
 exact (List.pairwise_append.1 h1).2.1.imp (fun {a b} hab e => by subst e; exact Nat.lt_irrefl _ hab)
theorem CRun.vnot (h : CRun d al gray s0 v x s t) : v ∉ s0.stk := fun hm => by
 have h1 := h.lp.inv.srt
 rw [show s.ts.stk = s0.stk ++ v :: t from h.lp.stk] at h1
 exact Nat.lt_irrefl _ ((List.pairwise_append.1 h1).2.2 v hm v List.mem_cons_self)
theorem CRun.pop (h : CRun d al gray s0 v x s t) (h0 : TInv d.next.length (EA d al) gray s0.ts) (hok0 : CLok d al s0) (hx : x = letN d) (he : s.low.getD v 0 = s.idx.getD v 0) {dn : List Bool} (hl : dn.length = d.next.length) (hdn : ∀ y, y < d.next.length → dn.getD y false = (decide (y ∈ v :: t) || s.dn.getD y false)) {b : Bool} (hb : b = true ↔ EA d al v v ∨ 1 < (v :: t).length) :
  CDone d al gray s0 v { s with dn := dn, stk := s0.stk, cnt := s.cnt + 1, comp := fun y => if y ∈ v :: t then (s.cnt : Int) else s.comp y, all := if b = true then s.all ++ [v :: t] else s.all } [] := by
 obtain ⟨h1, h2, h3⟩ := h.lp.pop h0 (by rw [hx, kA_end]; exact Nat.le_refl _) (fun u hu => nxA_of hu) he (comp := fun y => if y ∈ v :: t then (s.cnt : Int) else s.comp y) (fun _ => rfl)
 have h9 : s0.clk ≤ s.clk := h.lp.clk
 have hsk := hok0.sk
 have hneg : ∀ y ∈ v :: t, s.comp y < 0 := fun y hy => ((h.lp.inv.mem y).1 (by rw [show s.ts.stk = s0.stk ++ v :: t from h.lp.stk]; exact List.mem_append_right _ hy)).2
 have hcl : ∀ y, s.comp y < s.cnt := fun y => by
  by_cases hc : 0 ≤ s.comp y
  ·exact (h.lp.inv.cmp y hc).2
  ·omega
 refine ⟨⟨h.ok.li, h.ok.ll, hl, h.ok.ck, by show s0.stk.length ≤ s.clk; omega, fun y hy => ?_, h.ok.alw, h.ok.prt.pop hcl h.nd hneg (fun _ => rfl) hb⟩, h1, h2, h3, h.lt⟩
 show dn.getD y false = decide (0 ≤ if y ∈ v :: t then (s.cnt : Int) else s.comp y)
 rw [hdn y hy, h.ok.dn y hy]
 by_cases e : y ∈ v :: t
 ·rw [if_pos e]; simp [e]
 ·rw [if_neg e]; simp [e]
end
theorem CL.start (d : DFA) (al : Nat → Bool) : CLok d al { idx := List.replicate d.next.length 0, low := List.replicate d.next.length 0, dn := List.replicate d.next.length false, stk := [], clk := 0, all := [], comp := fun _ => -1, cnt := 0 } ∧ TInv d.next.length (EA d al) [] (CL.ts { idx := List.replicate d.next.length 0, low := List.replicate d.next.length 0, dn := List.replicate d.next.length false, stk := [], clk := 0, all := [], comp := fun _ => -1, cnt := 0 }) := by
 have hz : ∀ x, (List.replicate d.next.length 0).getD x 0 = 0 := fun x => by
  rw [List.getD_eq_getElem?_getD, List.getElem?_replicate]; split <;> rfl
 refine ⟨⟨by simp, by simp, by simp, by simp, by simp, fun x hx => ?_, fun x hx => absurd (hz x) hx, PInv.zero _⟩, ?_⟩
 ·show (List.replicate d.next.length false).getD x false = decide ((0 : Int) ≤ -1)
  rw [List.getD_eq_getElem?_getD, List.getElem?_replicate]; split <;> rfl
 ·exact TInv.ext (idx := fn (List.replicate d.next.length 0)) (low := fn (List.replicate d.next.length 0)) (comp := fun _ => -1) (TInv.start (E := EA d al) d.next.length (fun _ => 0)) (fun x => hz x) (fun _ => rfl)
def intY (l : List Nat) : List Int := l.map fun x : Nat => (x : Int)
theorem ints_intY (l : List Nat) : ints (intY l) = nats l := by unfold intY; simp
theorem intY_len (l : List Nat) : (intY l).length = l.length := by unfold intY; simp
theorem idx_at {l a t : List Nat} {v i : Nat} (h : l = a ++ v :: t) (hv : v ∉ a) {hi : i < l.length} (hx : l[i] = v) (h0 : v ∉ l.take i) : i = a.length := by
 subst h
 rcases Nat.lt_trichotomy i a.length with e | e | e
 ·rw [List.getElem_append_left e] at hx
  exact absurd (hx ▸ List.getElem_mem e) hv
 ·exact e
 ·refine absurd ?_ h0
  rw [List.take_append, List.take_of_length_le (by omega)]
  refine List.mem_append_right _ ?_
  rw [show i - a.length = (i - a.length - 1) + 1 by omega, List.take_succ_cons]
  exact List.mem_cons_self
theorem Sl.ndrop {w : World} {b : Option Addr} {xs : List Nat} (h : Sl w b (nats xs)) {c : Nat} (lo : Nat) (hc : xs.length ≤ c) : Sl w (subB b c lo 1) (nats (xs.drop lo)) := by
 have h1 := Sl.idrop (xs := intY xs) (by rw [ints_intY]; exact h) (c := c) lo (by rw [intY_len]; exact hc)
 rw [show (intY xs).drop lo = intY (xs.drop lo) from List.map_drop.symm, ints_intY] at h1
 exact h1
theorem dn_step {dn z : List Bool} {n : Nat} {l : List Nat} {j : Nat} (hl : dn.length = n) (hj : j < l.length) (hn : l[j] < n) (h : ∀ y, y < n → dn.getD y false = (decide (y ∈ l.take j) || z.getD y false)) : ∀ y, y < n → (dn.set l[j] true).getD y false = (decide (y ∈ l.take (j + 1)) || z.getD y false) := fun y hy => by
 have e := fb_set (l := dn) (v := l[j]) (a := true) (by omega) y
 have hmem : y ∈ l.take (j + 1) ↔ y ∈ l.take j ∨ y = l[j] := by rw [List.take_succ_eq_append_getElem hj, List.mem_append, List.mem_singleton]
 rw [show (dn.set l[j] true).getD y false = fb (dn.set l[j] true) y from rfl, e]
 by_cases e2 : y = l[j]
 ·rw [if_pos e2, decide_eq_true (hmem.2 (.inr e2))]; rfl
 ·rw [if_neg e2, show fb dn y = dn.getD y false from rfl, h y hy]
  have e3 : decide (y ∈ l.take j) = decide (y ∈ l.take (j + 1)) := decide_eq_decide.2 (by rw [hmem]; exact ⟨.inl, fun g => g.elim id (fun g => absurd g e2)⟩)
  rw [e3]
def selfB (d : DFA) (v : Nat) : Nat → Bool
 | 0 => false
 | x + 1 => selfB d v x || decide (toN d v x = v)
theorem selfB_t1 {d : DFA} {v x : Nat} (h : selfB d v x = true) : selfB d v (x + 1) = true := by unfold selfB; rw [h]; rfl
theorem selfB_t2 {d : DFA} {v x : Nat} (h : toN d v x = v) : selfB d v (x + 1) = true := by unfold selfB; rw [decide_eq_true h, Bool.or_true]
theorem selfB_f {d : DFA} {v x : Nat} (h : ¬ selfB d v x = true) (h2 : toN d v x ≠ v) : selfB d v (x + 1) = false := by unfold selfB; rw [Bool.eq_false_iff.2 h, decide_eq_false h2]; rfl
theorem selfB_ex {d : DFA} {v : Nat} : ∀ {x : Nat}, selfB d v x = true ↔ ∃ y, y < x ∧ toN d v y = v
 | 0 => ⟨fun h => (Bool.false_ne_true h).elim, fun ⟨y, h, _⟩ => absurd h (Nat.not_lt_zero _)⟩
 | x + 1 => by
  constructor
  ·intro h
   by_cases h1 : selfB d v x = true
   ·obtain ⟨y, h2, h3⟩ := selfB_ex.1 h1
    exact ⟨y, by omega, h3⟩
   ·by_cases h2 : toN d v x = v
    ·exact ⟨x, by omega, h2⟩
    ·rw [selfB_f h1 h2] at h; cases h
  ·rintro ⟨y, h1, h2⟩
   rcases Nat.lt_succ_iff_lt_or_eq.1 h1 with h1 | rfl
   ·exact selfB_t1 (selfB_ex.2 ⟨y, h1, h2⟩)
   ·exact selfB_t2 h2
theorem self_iff {d : DFA} {al : Nat → Bool} {v : Nat} (hv : v < d.next.length) (hav : al v = true) : selfB d v (letN d) = true ↔ EA d al v v := selfB_ex.trans ⟨fun ⟨y, h1, h2⟩ => ⟨⟨hv, y, h1, h2⟩, hav, hav⟩, fun ⟨⟨_, y, h1, h2⟩, _⟩ => ⟨y, h1, h2⟩⟩
theorem Sub.push9 {L L' OO : List Item} {I : TypeId} {zps : List Rec} {R : Rec} (h : Sub (L' ++ [R.itm I]) L) : Sub (L' ++ (itms I (zps ++ [R]) ++ OO)) (L ++ (itms I zps ++ OO)) := by
 obtain ⟨l, h1, h2⟩ := h.app (M := itms I zps ++ OO)
 refine ⟨l, List.Perm.trans ?_ h1, h2⟩
 have e : itms I (zps ++ [R]) = itms I zps ++ [R.itm I] := by simp [itms]
 rw [e, List.append_assoc, List.append_assoc]
 exact (List.perm_append_comm_assoc (itms I zps) [R.itm I] OO).append_left L'
end Go.Lx


namespace Go.Lx
structure PartRed (E : Nat → Nat → Prop) (pr r : Nat → Nat) (P : Nat → Prop) : Prop where
 sub : ∀ m, IsMax pr P m → IsRed E pr r (fun u => P u ∧ pr u < m)
 top : ∀ m k, IsMax pr P m → Max0 r (fun u => P u ∧ pr u < m) k → ∀ v, P v → pr v = m → r v = k + (k + m) % 2
theorem red_of_cmp {n : Nat} {E : Nat → Nat → Prop} {pr r : Nat → Nat} {S : Nat → Prop} (h0 : ∀ v, S v → ¬ Cyc E S v → r v = 0) (hp : ∀ v, S v → Cyc E S v → PartRed E pr r (Cmp E S v)) : IsRed E pr r S :=
 .mk h0 (fun v hv hc m hm => (hp v hv hc).sub m hm) (fun v hv hc m k hm hpv hk => (hp v hv hc).top m k hm hk v (.refl hv) hpv)
theorem red_of_parts {n : Nat} {E : Nat → Nat → Prop} {pr r : Nat → Nat} {S : Nat → Prop} {all : List (List Nat)} (h : PartsOk n E S all) (hS : ∀ v, S v → v < n) (h0 : ∀ v, S v → (∀ P ∈ all, v ∉ P) → r v = 0) (hp : ∀ P ∈ all, PartRed E pr r (fun u => u ∈ P)) : IsRed E pr r S := by
 have e : ∀ P ∈ all, ∀ v ∈ P, Cmp E S v = fun u => u ∈ P := fun P hP v hv => funext fun u => propext (h.cmp P hP v hv u).symm
 refine red_of_cmp (n := n) (fun v hv hc => h0 v hv fun P hP hvP => hc (h.cyc P hP v hvP)) (fun v hv hc => ?_)
 obtain ⟨P, hP, hvP⟩ := h.full v (hS v hv) hv hc
 rw [e P hP v hvP]; exact hp P hP
theorem Max0.congr {f g : Nat → Nat} {P : Nat → Prop} {k : Nat} (h : Max0 f P k) (he : ∀ v, P v → g v = f v) : Max0 g P k :=
 ⟨fun u hu => by rw [he u hu]; exact h.1 u hu, h.2.imp id fun ⟨u, hu, e⟩ => ⟨u, hu, by rw [he u hu]; exact e⟩⟩
theorem PartRed.ext {E : Nat → Nat → Prop} {pr r r' : Nat → Nat} {P : Nat → Prop} (h : PartRed E pr r P) (he : ∀ v, P v → r' v = r v) : PartRed E pr r' P :=
 ⟨fun m hm => (h.sub m hm).ext fun v hv => he v hv.1, fun m k hm hk v hv hpv => by
  rw [he v hv]
  exact h.top m k hm (hk.congr fun u hu => (he u hu.1).symm) v hv hpv⟩
theorem PartRed.mk2 {E : Nat → Nat → Prop} {pr o1 o2 : Nat → Nat} {P : Nat → Prop} {m k0 : Nat} (hm : IsMax pr P m) (h1 : IsRed E pr o1 (fun u => P u ∧ pr u < m)) (hk : Max0 o1 (fun u => P u ∧ pr u < m) k0)
  (ht : ∀ v, P v → ¬ pr v < m → o2 v = k0 + (k0 + m) % 2) (low : ∀ v, P v → pr v < m → o2 v = o1 v) : PartRed E pr o2 P := by
 refine ⟨fun m' hm' => ?_, fun m' k' hm' hk' v hv hpv => ?_⟩
 ·obtain rfl := hm.unique hm'
  exact h1.ext fun v hv => low v hv.1 hv.2
 ·obtain rfl := hm.unique hm'
  obtain rfl := hk.unique (hk'.congr fun v hv => (low v hv.1 hv.2).symm)
  exact ht v hv (by omega)
structure RedI (E : Nat → Nat → Prop) (pr : Nat → Nat) (o0 o : Nat → Nat) (ps : List (List Nat)) (most : Nat) : Prop where
 parts : ∀ P ∈ ps, PartRed E pr o (fun u => u ∈ P)
 out : ∀ v, (∀ P ∈ ps, v ∉ P) → o v = o0 v
 max : Max0 o (fun u => ∃ P ∈ ps, u ∈ P) most
theorem RedI.start (E : Nat → Nat → Prop) (pr o : Nat → Nat) : RedI E pr o o [] 0 :=
 ⟨fun P hP => (List.not_mem_nil hP).elim, fun _ _ => rfl, fun u ⟨P, hP, _⟩ => (List.not_mem_nil hP).elim, .inl rfl⟩
theorem RedI.step {E : Nat → Nat → Prop} {pr o0 o o1 o2 : Nat → Nat} {ps : List (List Nat)} {most : Nat} (h : RedI E pr o0 o ps most) {P : List Nat} (hd : ∀ Q ∈ ps, ∀ v ∈ Q, v ∉ P) {m k0 : Nat} (hm : IsMax pr (fun u => u ∈ P) m)
  (h1 : IsRed E pr o1 (fun u => u ∈ P ∧ pr u < m)) (hout : ∀ v, ¬ (v ∈ P ∧ pr v < m) → o1 v = o v) (hk : Max0 o1 (fun u => u ∈ P ∧ pr u < m) k0) (h2 : ∀ v, o2 v = if v ∈ P ∧ ¬ pr v < m then k0 + (k0 + m) % 2 else o1 v) : RedI E pr o0 o2 (ps ++ [P]) (Nat.max most (k0 + (k0 + m) % 2)) := by
 have off : ∀ v, v ∉ P → o2 v = o v := fun v hv => by rw [h2 v, if_neg (fun g => hv g.1), hout v (fun g => hv g.1)]
 have low : ∀ v, v ∈ P ∧ pr v < m → o2 v = o1 v := fun v hv => by rw [h2 v, if_neg (fun g => g.2 hv.2)]
 have old : ∀ Q ∈ ps, ∀ v ∈ Q, o2 v = o v := fun Q hQ v hv => off v (hd Q hQ v hv)
 have le : ∀ u ∈ P, o2 u ≤ k0 + (k0 + m) % 2 := fun u hu => by
  by_cases e : pr u < m
  ·rw [low u ⟨hu, e⟩]; have := hk.1 u ⟨hu, e⟩; omega
  ·rw [h2 u, if_pos ⟨hu, e⟩]; exact Nat.le_refl _
 refine ⟨fun Q hQ => ?_, fun v hv => ?_, fun u hu => ?_, ?_⟩
 ·rcases List.mem_append.1 hQ with hQ | hQ
  ·exact (h.parts Q hQ).ext (old Q hQ)
  ·rw [List.mem_singleton.1 hQ]
   exact PartRed.mk2 hm h1 hk (fun v hv hge => by rw [h2 v, if_pos ⟨hv, hge⟩]) (fun v hv hlt => low v ⟨hv, hlt⟩)
 ·rw [off v (hv P (List.mem_append_right _ (List.mem_singleton.2 rfl)))]
  exact h.out v fun Q hQ => hv Q (List.mem_append_left _ hQ)
 ·obtain ⟨Q, hQ, hu⟩ := hu
  rcases List.mem_append.1 hQ with hQ | hQ
  ·rw [old Q hQ u hu]
   exact Nat.le_trans (h.max.1 u ⟨Q, hQ, hu⟩) (Nat.le_max_left _ _)
  ·rw [List.mem_singleton.1 hQ] at hu
   exact Nat.le_trans (le u hu) (Nat.le_max_right _ _)
 ·obtain ⟨u, hu, e⟩ := hm.1
  have hmP : P ∈ ps ++ [P] := List.mem_append_right _ (List.mem_singleton.2 rfl)
  rcases Nat.le_total most (k0 + (k0 + m) % 2) with g | g
  ·refine .inr ⟨u, ⟨P, hmP, hu⟩, ?_⟩
   rw [show Nat.max most (k0 + (k0 + m) % 2) = k0 + (k0 + m) % 2 from Nat.max_eq_right g, h2 u, if_pos ⟨hu, by omega⟩]
  ·rw [show Nat.max most (k0 + (k0 + m) % 2) = most from Nat.max_eq_left g]
   rcases h.max.2 with q | ⟨v, ⟨Q, hQ, hv⟩, e⟩
   ·exact .inl q
   ·exact .inr ⟨v, ⟨Q, List.mem_append_left _ hQ, hv⟩, by rw [old Q hQ v hv]; exact e⟩
structure RedE (E : Nat → Nat → Prop) (pr : Nat → Nat) (S : Nat → Prop) (o0 o : Nat → Nat) (most : Nat) : Prop where
 red : IsRed E pr o S
 out : ∀ v, ¬ S v → o v = o0 v
 max : Max0 o S most
theorem RedI.done {n : Nat} {E : Nat → Nat → Prop} {pr o0 o : Nat → Nat} {S : Nat → Prop} {all : List (List Nat)} {most : Nat} (h : RedI E pr o0 o all most) (hp : PartsOk n E S all) (hS : ∀ v, S v → v < n) (h0 : ∀ v, S v → o0 v = 0) : RedE E pr S o0 o most :=
 ⟨red_of_parts hp hS (fun v hv hno => by rw [h.out v hno]; exact h0 v hv) h.parts, fun v hv => h.out v fun P hP hm => hv (hp.sub P hP v hm).2, fun u hu => by
  by_cases e : ∃ P ∈ all, u ∈ P
  ·exact h.max.1 u e
  ·rw [h.out u (fun P hP hm => e ⟨P, hP, hm⟩), h0 u hu]; exact Nat.zero_le _, h.max.2.imp id fun ⟨u, ⟨P, hP, hu⟩, e⟩ => ⟨u, (hp.sub P hP u hu).2, e⟩⟩
theorem RedE.le {n : Nat} {E : Nat → Nat → Prop} {pr o0 o : Nat → Nat} {S : Nat → Prop} {most b : Nat} (h : RedE E pr S o0 o most) (hS : ∀ v, S v → v < n) (hb : ∀ v, pr v ≤ b) : most ≤ b := by
 rcases h.max.2 with e | ⟨u, hu, e⟩
 ·omega
 ·have := h.red.le hS u hu; have := hb u; omega
structure RefI (E : Nat → Nat → Prop) (pr : Nat → Nat) (S : Nat → Prop) (o0 o : Nat → Nat) (dn : Nat → Prop) : Prop where
 sub : ∀ v, dn v → S v
 zero : ∀ v, dn v → ¬ Cyc E S v → o v = 0
 part : ∀ v, dn v → Cyc E S v → PartRed E pr o (Cmp E S v) ∧ ∀ u, Cmp E S v u → dn u
 out : ∀ v, ¬ dn v → o v = o0 v
theorem RefI.start (E : Nat → Nat → Prop) (pr : Nat → Nat) (S : Nat → Prop) (o : Nat → Nat) : RefI E pr S o o (fun _ => False) := ⟨fun _ h => h.elim, fun _ h => h.elim, fun _ h => h.elim, fun _ _ => rfl⟩
theorem RefI.none {E : Nat → Nat → Prop} {pr : Nat → Nat} {S : Nat → Prop} {o0 o o2 : Nat → Nat} {dn dn2 : Nat → Prop} (h : RefI E pr S o0 o dn) {s : Nat} (hs : S s) (hn : ¬ dn s) (hc : ¬ Cyc E S s) (h2 : ∀ v, o2 v = if v = s then 0 else o v) (hd : ∀ v, dn2 v ↔ v = s ∨ dn v) : RefI E pr S o0 o2 dn2 := by
 have old : ∀ v, dn v → o2 v = o v := fun v hv => by
  rw [h2 v]; exact if_neg (fun e : v = s => hn (e ▸ hv))
 refine ⟨fun v hv => ?_, fun v hv hcv => ?_, fun v hv hcv => ?_, fun v hv => ?_⟩
 ·rcases (hd v).1 hv with rfl | hv
  ·exact hs
  ·exact h.sub v hv
 ·rcases (hd v).1 hv with rfl | hv
  ·rw [h2 v, if_pos rfl]
  ·rw [old v hv]; exact h.zero v hv hcv
 ·rcases (hd v).1 hv with rfl | hv
  ·exact absurd hcv hc
  ·obtain ⟨h3, h4⟩ := h.part v hv hcv
   exact ⟨h3.ext fun u hu => old u (h4 u hu), fun u hu => (hd u).2 (.inr (h4 u hu))⟩
 ·rw [h2 v, if_neg (fun e => hv ((hd v).2 (.inl e)))]
  exact h.out v fun g => hv ((hd v).2 (.inr g))
theorem RefI.step {E : Nat → Nat → Prop} {pr : Nat → Nat} {S : Nat → Prop} {o0 o o1 o2 : Nat → Nat} {dn dn2 : Nat → Prop} (h : RefI E pr S o0 o dn) {s : Nat} (hs : S s) (hn : ¬ dn s) (hc : Cyc E S s) {m k0 : Nat} (hm : IsMax pr (Cmp E S s) m)
  (h1 : IsRed E pr o1 (fun u => Cmp E S s u ∧ pr u < m)) (hout : ∀ v, ¬ (Cmp E S s v ∧ pr v < m) → o1 v = o v) (hk : Max0 o1 (fun u => Cmp E S s u ∧ pr u < m) k0) (ht : ∀ v, Cmp E S s v → ¬ pr v < m → o2 v = k0 + (k0 + m) % 2) (hl : ∀ v, ¬ (Cmp E S s v ∧ ¬ pr v < m) → o2 v = o1 v) (hd : ∀ v, dn2 v ↔ Cmp E S s v ∨ dn v) : RefI E pr S o0 o2 dn2 := by
 have hno : ∀ v, dn v → ¬ Cmp E S s v := fun v hv hcm => by
  have hcv := hc.of_cmp hcm
  exact hn ((h.part v hv hcv).2 s (hcm.symm hs))
 have off : ∀ v, ¬ Cmp E S s v → o2 v = o v := fun v hv => by rw [hl v (fun g => hv g.1), hout v (fun g => hv g.1)]
 refine ⟨fun v hv => ?_, fun v hv hcv => ?_, fun v hv hcv => ?_, fun v hv => ?_⟩
 ·rcases (hd v).1 hv with hv | hv
  ·exact hv.1
  ·exact h.sub v hv
 ·rcases (hd v).1 hv with hv | hv
  ·exact absurd (hc.of_cmp hv) hcv
  ·rw [off v (hno v hv)]; exact h.zero v hv hcv
 ·rcases (hd v).1 hv with hv | hv
  ·rw [Cmp.same hs hv]
   exact ⟨PartRed.mk2 hm h1 hk ht fun u hu hlt => hl u (fun g => g.2 hlt), fun u hu => (hd u).2 (.inl hu)⟩
  ·obtain ⟨h3, h4⟩ := h.part v hv hcv
   exact ⟨h3.ext fun u hu => off u (hno u (h4 u hu)), fun u hu => (hd u).2 (.inr (h4 u hu))⟩
 ·rw [off v (fun g => hv ((hd v).2 (.inl g)))]
  exact h.out v fun g => hv ((hd v).2 (.inr g))
theorem RefI.done {n : Nat} {E : Nat → Nat → Prop} {pr : Nat → Nat} {S : Nat → Prop} {o0 o : Nat → Nat} {dn : Nat → Prop} (h : RefI E pr S o0 o dn) (ha : ∀ v, S v → dn v) : IsRed E pr o S ∧ ∀ v, ¬ S v → o v = o0 v :=
 ⟨red_of_cmp (n := n) (fun v hv hc => h.zero v (ha v hv) hc) (fun v hv hc => (h.part v (ha v hv) hc).1), fun v hv => h.out v fun g => hv (h.sub v g)⟩
def mxP (pr : Nat → Nat) (l : List Nat) : Nat := (l.map pr).foldl max 0
theorem mxP_snoc (pr : Nat → Nat) (l : List Nat) (v : Nat) : mxP pr (l ++ [v]) = max (mxP pr l) (pr v) := by unfold mxP; rw [List.map_append, foldl_max_app]; simp
theorem mxP_take {pr : Nat → Nat} {l : List Nat} {j : Nat} (h : j < l.length) : mxP pr (l.take (j + 1)) = max (mxP pr (l.take j)) (pr l[j]) := by rw [List.take_succ_eq_append_getElem h, mxP_snoc]
theorem mxP_is {pr : Nat → Nat} {l : List Nat} (h : l ≠ []) : IsMax pr (fun u => u ∈ l) (mxP pr l) := by
 have hne : l.map pr ≠ [] := fun e => h (List.map_eq_nil_iff.1 e)
 obtain ⟨u, hu, e⟩ := List.mem_map.1 (foldl_max_mem hne)
 exact ⟨⟨u, hu, e⟩, fun v hv => le_foldl_max (List.mem_map_of_mem hv)⟩
theorem mxP_le {pr : Nat → Nat} {b : Nat} (hb : ∀ v, pr v ≤ b) (l : List Nat) : mxP pr l ≤ b := foldl_max_le fun x hx => by
 obtain ⟨v, _, rfl⟩ := List.mem_map.1 hx
 exact hb v
def inM (m : List (Int × Bool)) (v : Nat) : Bool := (lookL ((v : Nat) : Int) m).getD false
theorem inM_put (m : List (Int × Bool)) (v u : Nat) : inM (putA ((v : Nat) : Int) true m) u = (decide (u = v) || inM m u) := by
 unfold inM
 rw [lookY_put]
 by_cases e : u = v
 ·subst e; rw [if_pos rfl]; simp
 ·rw [if_neg (by omega), decide_eq_false e]; rfl
theorem inM_nil (v : Nat) : inM [] v = false := rfl
theorem inM_rest {pr : Nat → Nat} {l : List Nat} {m : Nat} {mm : List (Int × Bool)} {j : Nat} (hj : j < l.length) (h : ∀ u, inM mm u = decide (u ∈ l.take j ∧ pr u < m)) (hlt : pr l[j] < m) : ∀ u, inM (putA ((l[j] : Nat) : Int) true mm) u = decide (u ∈ l.take (j + 1) ∧ pr u < m) := fun u => by
 rw [inM_put, h u, List.take_succ_eq_append_getElem hj, Bool.eq_iff_iff]
 simp only [Bool.or_eq_true, decide_eq_true_eq, List.mem_append, List.mem_singleton]
 constructor
 ·rintro (rfl | ⟨h1, h2⟩)
  ·exact ⟨.inr rfl, hlt⟩
  ·exact ⟨.inl h1, h2⟩
 ·rintro ⟨h1 | h1, h2⟩
  ·exact .inr ⟨h1, h2⟩
  ·exact .inl h1
theorem inM_skip {pr : Nat → Nat} {l : List Nat} {m : Nat} {mm : List (Int × Bool)} {j : Nat} (hj : j < l.length) (h : ∀ u, inM mm u = decide (u ∈ l.take j ∧ pr u < m)) (hlt : ¬ pr l[j] < m) : ∀ u, inM mm u = decide (u ∈ l.take (j + 1) ∧ pr u < m) := fun u => by
 rw [h u, List.take_succ_eq_append_getElem hj, Bool.eq_iff_iff]
 simp only [decide_eq_true_eq, List.mem_append, List.mem_singleton]
 exact ⟨fun g => ⟨.inl g.1, g.2⟩, fun g => ⟨g.1.elim id (fun e => absurd (e ▸ g.2) hlt), g.2⟩⟩
theorem top_set {pr : Nat → Nat} {l o o1 : List Nat} {m k j : Nat} (hj : j < l.length) (hl : l[j] < o.length) (h : ∀ u, fn o u = if u ∈ l.take j ∧ ¬ pr u < m then k else fn o1 u) (hge : ¬ pr l[j] < m) : ∀ u, fn (o.set l[j] k) u = if u ∈ l.take (j + 1) ∧ ¬ pr u < m then k else fn o1 u := fun u => by
 rw [fn_set hl u, List.take_succ_eq_append_getElem hj]
 by_cases e : u = l[j]
 ·rw [if_pos e, if_pos ⟨List.mem_append_right _ (List.mem_singleton.2 e), by rw [e]; exact hge⟩]
 ·rw [if_neg e, h u]
  by_cases g : u ∈ l.take j ∧ ¬ pr u < m
  ·rw [if_pos g, if_pos ⟨List.mem_append_left _ g.1, g.2⟩]
  ·rw [if_neg g, if_neg (fun q => g ⟨(List.mem_append.1 q.1).elim id (fun q => absurd (List.mem_singleton.1 q) e), q.2⟩)]
theorem top_skip {pr : Nat → Nat} {l o o1 : List Nat} {m k j : Nat} (hj : j < l.length) (h : ∀ u, fn o u = if u ∈ l.take j ∧ ¬ pr u < m then k else fn o1 u) (hge : pr l[j] < m) : ∀ u, fn o u = if u ∈ l.take (j + 1) ∧ ¬ pr u < m then k else fn o1 u := fun u => by
 rw [h u, List.take_succ_eq_append_getElem hj]
 by_cases g : u ∈ l.take j ∧ ¬ pr u < m
 ·rw [if_pos g, if_pos ⟨List.mem_append_left _ g.1, g.2⟩]
 ·rw [if_neg g, if_neg (fun q => (List.mem_append.1 q.1).elim (fun q2 => g ⟨q2, q.2⟩) (fun q2 => q.2 (by rw [List.mem_singleton.1 q2]; exact hge)))]
theorem take_disj {all : List (List Nat)} (h : all.flatten.Nodup) {i : Nat} (hi : i < all.length) : ∀ Q ∈ all.take i, ∀ v ∈ Q, v ∉ all[i] := fun Q hQ v hv hm => by
 have e : all = all.take i ++ (all[i] :: all.drop (i + 1)) := by rw [← List.drop_eq_getElem_cons hi]; exact (List.take_append_drop i all).symm
 rw [e, List.flatten_append] at h
 exact (List.nodup_append.1 h).2.2 v (List.mem_flatten.2 ⟨Q, hQ, hv⟩) v (by rw [List.flatten_cons]; exact List.mem_append_left _ hm) rfl
noncomputable def redF (p : Par) : Nat → Nat := @Classical.epsilon (Nat → Nat) ⟨fun _ => 0⟩ (RedOf p)
noncomputable def rdV (p : Par) : Par := if checkP p = 0 then rdP p (redF p) else noP
theorem rdV_of {p : Par} (h : checkP p = 0) {f : Nat → Nat} (hr : RedOf p f) : rdV p = rdP p f := by
 unfold rdV; rw [if_pos h]
 exact (Classical.epsilon_spec (p := RedOf p) ⟨f, hr⟩).unique hr
theorem rdV_no {p : Par} (h : checkP p ≠ 0) : rdV p = noP := if_neg h
theorem RedE.of {p : Par} {S : Nat → Prop} (hS : ∀ v, S v ↔ v < p.next.length) {o0 o : Nat → Nat} {most : Nat} (h : RedE (DE p.d) (prN p) S o0 o most) : RedOf p o := by
 have e : S = StS p := funext fun v => propext (hS v)
 rw [e] at h
 exact ⟨h.red⟩
end Go.Lx


namespace Go.Lx
open Go.RowKit
theorem CallT.reorder {P : Program} {base : World} {f : FuncId} {args : List Value} {O : List Item} {R : Value → List Item → Prop} (h : CallT P base f args O (fun v O' => ∃ O2, Sub O2 O' ∧ R v O2)) : CallT P base f args O R :=
 fun w M hI => (h w M hI).mono fun _ _ ⟨v, O', h1, h2, O2, hs, hr⟩ => ⟨v, O2, h1, h2.subp hs.app, hr⟩
theorem CallT.atR {P : Program} {base : World} {f : FuncId} {args : List Value} {A O : List Item} (B : List Item) {R : Value → List Item → Prop} (h : CallT P base f args A R) (hs : Sub (B ++ A) O) : CallT P base f args O (fun v O' => ∃ A', O' = B ++ A' ∧ R v A') :=
 CallT.reorder ((h.under (B := B) (sub_swap.tr hs)).mono fun v O' ⟨A', e, hr⟩ => ⟨B ++ A', by rw [e]; exact sub_swap, A', rfl, hr⟩)
theorem Res.cell1n {P : Program} {base : World} {ρ : Env} {O : List Item} {fn : Func} {R : Value → List Item → Prop} {a i : Nat} {T E : TypeId} {d : TypeDesc} {b : Nat} {v : Value} {cs : List Value} {fr : Nat × Nat} (hr : fn.results = #[.cell a T]) (hu : P.underlying T = some d) (ha : aggB d = false)
  (hp : ρ a = .pointer (some ⟨b, 0, none⟩)) (hO : O[i]? = some (objI b (.cells (v :: cs).toArray E fr)))
  (h : R v O) : Res P base fn ρ O R :=
 ⟨⟨_, O, Sub.of (List.Sublist.refl _), h, fun w tmps hI ht => by
  have h1 := run_loadBox1 (P := P) hu ha (hI.objAt hO)
  have ht' := ht a
  simp only [Array.getD_eq_getD_getElem?] at ht'
  simp [results, hr, ht', hp, asAddr, h1]⟩⟩
theorem Sub.tailSwap {L M A B : List Item} (h : Sub (L ++ (B ++ A)) M) : Sub (L ++ (A ++ B)) M := Sub.tr (Sub.of_perm (D := []) (by rw [List.append_nil]; exact List.Perm.append_left L List.perm_append_comm)) h
theorem part_rec {ps : List Rec} {all : List (List Nat)} (h : nums ps = all.map intY) {i : Nat} (hi : i < all.length) : ∃ b c, ps[i]? = some ⟨b, c, intY all[i]⟩ := by
 have hl : ps.length = all.length := by have := congrArg List.length h; simpa using this
 have hi2 : i < ps.length := by omega
 have hx : ps[i].xs = intY all[i] := by
  have := congrArg (fun l => l[i]?) h
  simp only [List.getElem?_map, List.getElem?_eq_getElem hi2, List.getElem?_eq_getElem hi, Option.map_some, Option.some.injEq] at this
  exact this
 refine ⟨ps[i].b, ps[i].c, ?_⟩
 rw [List.getElem?_eq_getElem hi2, ← hx]
theorem part_row {ps : List Rec} {I : TypeId} {i : Nat} {b : Option Addr} {c : Nat} {l : List Nat} (h : ps[i]? = some ⟨b, c, intY l⟩) : rowI b c I 1 (nats l) ∈ itms I ps := by
 have : Rec.itm I ⟨b, c, intY l⟩ ∈ itms I ps := List.mem_map_of_mem (List.mem_of_getElem? h)
 unfold Rec.itm at this
 rw [ints_intY] at this; exact this
theorem part_val {ps : List Rec} {i : Nat} {b : Option Addr} {c : Nat} {l : List Nat} (h : ps[i]? = some ⟨b, c, intY l⟩) : (vals ps)[i]? = some (.slice b l.length c) := by
 rw [List.getElem?_map, h]
 show some (Value.slice b (intY l).length c) = _
 rw [intY_len]
theorem parts_len {ps : List Rec} {all : List (List Nat)} (h : nums ps = all.map intY) : ps.length = all.length := by have := congrArg List.length h; simpa using this
theorem PartsOk.few {n : Nat} {E : Nat → Nat → Prop} {S : Nat → Prop} {all : List (List Nat)} (h : PartsOk n E S all) : all.length ≤ n := by
 have h2 : ∀ l : List (List Nat), (∀ P ∈ l, P ≠ []) → l.length ≤ l.flatten.length := by
  intro l
  induction l with
  | nil => intro _; exact Nat.le_refl _
  | cons P l ih =>
   intro hl
   have h3 := List.length_pos_iff.2 (hl P List.mem_cons_self)
   have h4 := ih fun Q hQ => hl Q (List.mem_cons_of_mem _ hQ)
   rw [List.flatten_cons, List.length_append, List.length_cons]; omega
 exact Nat.le_trans (h2 _ h.ne) h.len
theorem inM_lt {mm : List (Int × Bool)} {s : Nat} (h : ∀ u, inM mm u = decide (u < s)) : ∀ u, inM (putA ((s : Nat) : Int) true mm) u = decide (u < s + 1) := fun u => by
 rw [inM_put, h u, Bool.eq_iff_iff, Bool.or_eq_true, decide_eq_true_eq, decide_eq_true_eq, decide_eq_true_eq]; omega
theorem zeros_nats (n : Nat) : nats (List.replicate n 0) = List.replicate n (Value.int .i64 0) := by simp
theorem fn_zeros (n v : Nat) : fn (List.replicate n 0) v = 0 := by
 show (List.replicate n 0).getD v 0 = 0
 rw [List.getD_eq_getElem?_getD, List.getElem?_replicate]; split <;> rfl
theorem CallV.keepA {P : Program} {base : World} {fv : Value} {args : List Value} {O : List Item} {x : Value} (h : CallV P base fv args [] (fun v O' => v = x ∧ O' = [])) : CallV P base fv args O (fun v O' => v = x ∧ O' = O) := by
 have h1 := CallV.keepR O h
 simpa only [List.append_nil] using h1
theorem last_vis (d : DFA) (w : List Nat) (a : Nat) (hw : w ≠ []) : runN d a w ∈ visL d a w := by
 have hl : 0 < w.length := List.length_pos_iff.2 hw
 have := visL_get d w a (w.length - 1) (by omega)
 rw [show w.length - 1 + 1 = w.length by omega, List.take_of_length_le (Nat.le_refl _)] at this
 exact List.mem_of_getElem? this
theorem LaAt.rows {w : World} {l : La} {pb lb : Option Addr} {pc lc : Nat} {T : TypeId} (g1 : rowP pb pc T 1 (byts l.pre) w) (g2 : rowP lb lc T 1 (byts l.loop) w) : LaAt w l pb lb pc lc :=
 ⟨g1.sl, g2.sl, by have := g1.capLe; simpa using this, by have := g2.capLe; simpa using this⟩
theorem Sub.dropMid {L X OO O : List Item} (h : Sub (L ++ (X ++ OO)) O) : Sub (L ++ OO) O := Sub.tr (Sub.of ((List.sublist_append_right X OO).append_left L)) h
theorem CallT.arg2 {P : Program} {base : World} {f : FuncId} {O : List Item} {R : Value → List Item → Prop} {x y z u : Value} {a b : Int} (e : b = a) (h : CallT P base f [x, .int .i64 b, y, z, u] O R) : CallT P base f [x, .int .i64 a, y, z, u] O R := e ▸ h
end Go.Lx


namespace Go.Lx
open Go.RowKit
def keyV (q : Int × List UInt8) : Value := .agg #[.int .i64 q.1, str q.2]
theorem run_equal_str {P : Program} {T : TypeId} (h : P.underlying T = some .string) (d : Nat) (a b : List UInt8) (w : World) : (Op.equalIn (d + 1) T (str a) (str b)).run P w = .ok (decide (a = b)) w := by
 rw [Op.equalIn]
 simp [run_underlying' h, str, bytes_eq]
structure PairS (P : Program) (kt : TypeId) (f1 f2 : Field) : Prop where
 under : P.underlying kt = some (.struct #[f1, f2])
 u1 : P.underlying f1.type = some (.int .i64)
 u2 : P.underlying f2.type = some .string
 o1 : f1.offset = 0
 o2 : f2.offset = 1
 n1 : f1.name ≠ "_"
 n2 : f2.name ≠ "_"
 held : P.stoodInHeld kt = false
section
variable {P : Program} {kt : TypeId} {f1 f2 : Field} (h : PairS P kt f1 f2)
include h
theorem PairS.p1 (c : Int × List UInt8) (w : World) : (part f1.type #[.int .i64 c.1, str c.2] f1.offset).run P w = .ok (.int .i64 c.1) w := by
 simp [part, run_isAgg' h.u1, aggB, h.o1]
theorem PairS.p2 (c : Int × List UInt8) (w : World) : (part f2.type #[.int .i64 c.1, str c.2] f2.offset).run P w = .ok (str c.2) w := by
 simp [part, run_isAgg' h.u2, aggB, h.o2]
theorem PairS.equal (a b : Int × List UInt8) (w : World) : (Op.equal kt (keyV a) (keyV b)).run P w = .ok (decide (a = b)) w := by
 show (Op.equalIn (9998 + 1 + 1) kt (keyV a) (keyV b)).run P w = _
 rw [Op.equalIn]
 simp [run_underlying' h.under, keyV, h.held, h.n1, h.n2, h.p1, h.p2, run_equal_int h.u1, run_equal_str h.u2]
 by_cases e1 : a.1 = b.1
 ·by_cases e2 : a.2 = b.2
  ·have : a = b := by cases a; cases b; simp_all
   simp [e1, e2, this]
  ·have : ¬ a = b := fun e => e2 (by rw [e])
   simp [e1, e2, this]
 ·have : ¬ a = b := fun e => e1 (by rw [e])
  simp [e1, this]
theorem KeyOk.pairS : KeyOk P kt keyV where
 check := fun e a w => by
  show (Instr.checkKey e (9998 + 1 + 1) kt _).run P w = _
  rw [Instr.checkKey]
  have hk1 : ∀ (v : Int), (Instr.checkKey e (9998 + 1) f1.type (.int .i64 v)).run P w = .ok () w := fun v => by
   rw [Instr.checkKey]; simp [run_underlying' h.u1]
  have hk2 : ∀ (v : List UInt8), (Instr.checkKey e (9998 + 1) f2.type (str v)).run P w = .ok () w := fun v => by
   rw [Instr.checkKey]; simp [run_underlying' h.u2, str]
  simp [run_underlying' h.under, keyV, h.n1, h.n2, h.p1, h.p2, hk1, hk2]
 find := fun es ks a w hks => by
  have ask : ∀ (es : List MapEntry) (ks : List (Int × List UInt8)) (i : Nat), es.map (·.key) = ks.map keyV → (Instr.findAsking kt (keyV a) es i).run P w = .ok (findL a ks es i) w := by
   intro es
   induction es with
   | nil => intro ks i h; cases ks <;> simp_all [Instr.findAsking, findL]
   | cons e es ih =>
    intro ks i hh
    cases ks with
    | nil => simp at hh
    | cons b ks =>
     simp only [List.map_cons, List.cons.injEq] at hh
     simp only [Instr.findAsking, hh.1, Sem.run_bind, h.equal, Result.andThen_ok, findL]
     by_cases e : a = b
     ·simp [e]
     ·simp [e, ih ks (i + 1) hh.2]
  have key : ∀ (es : List MapEntry) (ks : List (Int × List UInt8)), es.map (·.key) = ks.map keyV → Instr.findNow (.struct #[f1, f2]) (keyV a) es 0 = some (findL a ks es 0) ∨ Instr.findNow (.struct #[f1, f2]) (keyV a) es 0 = none := by
   intro es ks hh
   cases es with
   | nil => left; cases ks <;> simp_all [Instr.findNow, findL]
   | cons e es => right; simp [Instr.findNow, Instr.sameNow]
  rcases key es ks hks with hk | hk
  ·simp [Instr.findKey, run_underlying' h.under, hk]
  ·simp [Instr.findKey, run_underlying' h.under, hk, ask es ks 0 hks]
end
def mapSP {α β : Type} (K : α → Value) (V : β → Value) (m : Nat) (l : List (α × β)) (a : α) (z : Value) (c : Nat) (w : World) : Prop :=
 ∃ es : Array MapEntry, w.heap[m]? = some (.map (es.push { key := K a, val := z, born := c }) (c + 1)) ∧ es.toList.map (fun e => (e.key, e.val)) = (l.map fun q => (K q.1, V q.2)) ∧ (es.toList.map (·.born)).Nodup ∧ ∀ e ∈ es.toList, e.born < c
def mapSI {α β : Type} (K : α → Value) (V : β → Value) (m : Nat) (l : List (α × β)) (a : α) (z : Value) (c : Nat) : Item where
 blocks := [m]
 P := mapSP K V m l a z c
 loc := fun w w' h hp => by
  obtain ⟨es, h1, h2⟩ := hp
  exact ⟨es, by rw [h m (by simp)]; exact h1, h2⟩
section
variable {P : Program} {r : Option Nat} {base : World} {n : Nat} {ρ : Env} {O : List Item} {K' : Env → List Item → Prop} {d : Nat} {t : TypeId} {p : String} {af : Array Edge} {g : Option (Nat × Bool)}
theorem l_mapEntry (i : Nat) {x y : Operand} {T kt vt : TypeId} {m s by_ : Nat} {α β : Type} [DecidableEq α] {K : α → Value} {V : β → Value} {l : List (α × β)} {a : α} {z : Value} (hu : P.underlying T = some (.map kt vt)) (hz : Inf P vt z s by_) (hk : KeyOk P kt K) (hx : ev ρ x = .map (some m)) (hy : ev ρ y = K a)
  (hO : O[i]? = some (mapI K V m l)) (hfresh : a ∉ l.map Prod.fst) (h : ∀ c : Nat, K' (upd ρ d (.tuple #[z, .int .i64 (c : Int)])) (O.set i (mapSI K V m l a z c))) (hn : Nat.blt d n = true := by rfl) : LT P r base n ⟨some d, .mapEntry T x y, t, p, af, g⟩ ρ O K' :=
 LT.of_run hn fun w M hI => by
  obtain ⟨es, clk, h1, h2, h3, h4⟩ := hI.holds (mapI K V m l) (List.mem_append_left _ (List.mem_of_getElem? hO))
  have hf := hk.find es.toList (l.map Prod.fst) a w (keys_of h2)
  rw [findL_none _ _ _ hfresh] at hf
  have hg : (getObj m).run P w = .ok (.map es clk) w := by simp [getObj, Sem.run, h1]
  have hs : ∀ o, (setObj m o).run P w = .ok () (setB w m o) := fun o => by simp [setObj, Sem.run, h1, setB]
  have hlt := (Array.getElem?_eq_some_iff.1 h1).1
  refine ⟨_, setB w m (.map (es.push { key := K a, val := z, born := clk }) (clk + 1)), O.set i (mapSI K V m l a z clk), ?_, ?_, h clk⟩
  ·simp only [execOp, hx, hy, Instr.mapEntry, Sem.run_bind, run_underlying' hu, Result.andThen_ok, hg, hk.check, hf, run_zeroValue' hz, hs, Sem.run_pure, goInt]
  ·rw [← set_app hO]
   exact hI.stepAt (at_app hO) rfl rfl rfl (by rw [setB_size]; exact Nat.le_refl _) (fun k _ hk => setB_other (fun e => hk (by simp [mapI, e]))) ⟨es, setB_same hlt, h2, h3, h4⟩ (fun k hk => .inl hk) (by simp [mapSI])
theorem l_entryStore (i : Nat) {x y q : Operand} {T : TypeId} {m c : Nat} {α β : Type} {K : α → Value} {V : β → Value} {l : List (α × β)} {a : α} {v : β} {z : Value} (hx : ev ρ x = .map (some m)) (hy : ev ρ y = .int .i64 (c : Int)) (hq : ev ρ q = V v)
  (hO : O[i]? = some (mapSI K V m l a z c)) (h : K' ρ (O.set i (mapI K V m (l ++ [(a, v)])))) : LT P r base n ⟨none, .entryStore T x y q, t, p, af, g⟩ ρ O K' :=
 LT.of_skip fun w M hI => by
  obtain ⟨es, h1, h2, h3, h4⟩ := hI.holds (mapSI K V m l a z c) (List.mem_append_left _ (List.mem_of_getElem? hO))
  have hg : (getObj m).run P w = .ok (.map (es.push { key := K a, val := z, born := c }) (c + 1)) w := by simp [getObj, Sem.run, h1]
  have hs : ∀ o, (setObj m o).run P w = .ok () (setB w m o) := fun o => by simp [setObj, Sem.run, h1, setB]
  have hlt := (Array.getElem?_eq_some_iff.1 h1).1
  have hno : es.findIdx? (fun e => (e.born : Int) == (c : Int)) = none := by
   rw [Array.findIdx?_eq_none_iff]
   intro e he
   have := h4 e (by simpa using he)
   simp; omega
  have hfi : (es.push { key := K a, val := z, born := c }).findIdx? (fun e => (e.born : Int) == (c : Int)) = some es.size := by
   rw [Array.findIdx?_push, hno]; simp
  refine ⟨setB w m (.map (es.push { key := K a, val := V v, born := c }) (c + 1)), O.set i (mapI K V m (l ++ [(a, v)])), ?_, ?_, h⟩
  ·have hm : (es.push { key := K a, val := z, born := c }).modify es.size (fun e => { e with val := V v }) = es.push { key := K a, val := V v, born := c } := by
    apply Array.ext_getElem?
    intro k
    rw [Array.getElem?_modify]
    by_cases hk : es.size = k
    ·subst hk; simp
    ·rw [if_neg hk]
     rw [Array.getElem?_push, Array.getElem?_push, if_neg (fun e => hk (Eq.symm e)), if_neg (fun e => hk (Eq.symm e))]
   simp only [execOp, hx, hy, hq, Instr.entryStore, Sem.run_bind, hg, Result.andThen_ok, asInt, asIntOf, Sem.run_pure, hfi, hs, hm]
  ·rw [← set_app hO]
   refine hI.stepAt (at_app hO) rfl rfl rfl (by rw [setB_size]; exact Nat.le_refl _) (fun k _ hk => setB_other (fun e => hk (by simp [mapSI, e]))) ⟨_, _, setB_same hlt, ?_, ?_, ?_⟩ (fun k hk => .inl hk) (by simp [mapI])
   ·simp [h2]
   ·simp only [Array.toList_push, List.map_append, List.map_cons, List.map_nil, List.nodup_append]
    refine ⟨h3, by simp, fun x hx y hy e => ?_⟩
    obtain ⟨u, hu, rfl⟩ := List.mem_map.1 hx
    simp at hy; have := h4 u hu; omega
   ·intro e he
    simp only [Array.toList_push, List.mem_append, List.mem_singleton] at he
    rcases he with he | rfl
    ·have := h4 e he; omega
    ·simp
end
end Go.Lx


namespace Go.Lx
open Go.RowKit
section
variable {P : Program} {r : Option Nat} {base : World} {n : Nat} {ρ : Env} {O : List Item} {K : Env → List Item → Prop} {d : Nat} {dst : Option Nat} {t : TypeId} {p : String} {af : Array Edge} {g : Option (Nat × Bool)}
theorem q_ptrNil {x : Operand} {T E U : TypeId} (hu : P.underlying T = some (.pointer E)) (hx : ev ρ x = .pointer none) : QT P base ⟨dst, .binOp .eql T x (.const (.pointer none)) U, t, p, af, g⟩ ρ O (.bool true) := fun w _ => by
 have h : (Op.equal T (.pointer none) (.pointer none)).run P w = .ok true w := by
  show (Op.equalIn (9999 + 1) T _ _).run P w = _
  rw [Op.equalIn]; simp [run_underlying' hu]
 have hc : ev ρ (.const (.pointer none)) = .pointer none := rfl
 simp [execOp, hx, hc, eqGuard, binOp, h]
theorem q_ptrSome {x : Operand} {T E U : TypeId} {a : Addr} (hu : P.underlying T = some (.pointer E)) (hx : ev ρ x = .pointer (some a)) : QT P base ⟨dst, .binOp .eql T x (.const (.pointer none)) U, t, p, af, g⟩ ρ O (.bool false) := fun w _ => by
 have h : (Op.equal T (.pointer (some a)) (.pointer none)).run P w = .ok false w := by
  show (Op.equalIn (9999 + 1) T _ _).run P w = _
  rw [Op.equalIn]; simp [run_underlying' hu]
 have hc : ev ρ (.const (.pointer none)) = .pointer none := rfl
 simp [execOp, hx, hc, eqGuard, binOp, h]
theorem q_ptrNeq {x y : Operand} {T E U : TypeId} {a : Addr} {j : TypeInfo} (hu : P.underlying T = some (.pointer E)) (hj : P.info? E = some j) (hx : ev ρ x = .pointer (some a)) (hy : ev ρ y = .pointer (some a)) : QT P base ⟨dst, .binOp .neq T x y U, t, p, af, g⟩ ρ O (.bool false) := fun w _ => by
 have h := Lib.run_neq_ptr_same (P := P) (w := w) a hu hj
 simp [execOp, hx, hy, eqGuard, h]
theorem q_toUnsafe {x : Operand} {S D E T : TypeId} {j : TypeInfo} {b : Nat} {cs : List Value} (i : Nat) (hs : P.underlying S = some (.pointer E)) (hd : P.underlying D = some .unsafePointer) (hj : P.info? E = some j) (hj0 : j.size ≠ 0) (hx : ev ρ x = .pointer (some ⟨b, 0, none⟩))
  (hO : O[i]? = some (objI b (.cells cs.toArray T (0, 0)))) (hl : 0 < cs.length) : QT P base ⟨dst, .convert S D x, t, p, af, g⟩ ρ O (.pointer (some ⟨b, 0, none⟩)) := fun w hI => by
 have hb : w.heap[b]? = some (.cells cs.toArray T (0, 0)) := hI.holds _ (List.mem_of_getElem? hO)
 have hsh : w.shape? b = some (T, cs.length) := by simp [World.shape?, hb]
 have h := Lib.run_to_unsafe (P := P) (w := w) ⟨b, 0, none⟩ hs hd hj hj0 hsh hl
 simp [execOp, hx, h]
theorem q_fromUnsafe {x : Operand} {S D T : TypeId} {j : TypeInfo} {b : Nat} {cs : List Value} (i : Nat) (hs : P.underlying S = some .unsafePointer) (hd : P.underlying D = some (.pointer T)) (hj : P.info? T = some j) (hx : ev ρ x = .pointer (some ⟨b, 0, none⟩))
  (hO : O[i]? = some (objI b (.cells cs.toArray T (0, 0)))) (hlies : liesAt P P.depth T (cs.length / P.cellsOf T) 0 T 1 = true) : QT P base ⟨dst, .convert S D x, t, p, af, g⟩ ρ O (.pointer (some ⟨b, 0, none⟩)) := fun w hI => by
 have hb : w.heap[b]? = some (.cells cs.toArray T (0, 0)) := hI.holds _ (List.mem_of_getElem? hO)
 have hsh : w.shape? b = some (T, cs.length) := by simp [World.shape?, hb]
 have h := Lib.run_from_unsafe (P := P) (w := w) ⟨b, 0, none⟩ hs hd hj hsh hlies
 simp [execOp, hx, h]
theorem q_noEscape {f : FuncId} {fn : Func} {x : Operand} {ats : Array TypeId} {v : Value} (hf : P.funcs[f]? = some fn) (hname : (fn.name == "runtime.NumGoroutine") = false) (hb : fn.body.isNone = true) (hn : Extern.findNext fn = none) (he : Extern.find fn = some Extern.AbiNoEscape.same) (hx : ev ρ x = v) :
  QT P base ⟨dst, .call ⟨.value (.func f), #[x], ats⟩, t, p, af, g⟩ ρ O v := fun w _ => by
 have h := run_callFunc_extern hf hname hb hn he #[v] w
 rw [Lib.run_noEscape] at h
 have hc : ev ρ (.func f) = .func (.func f) #[] #[] := rfl
 simp [execOp, resolve, hx, hc, invoke, Deferred.ofValue, h]
theorem q_strcat {x y : Operand} {T U : TypeId} {a b : List UInt8} (hl : a.length + b.length ≤ 9223372036854775807) (hx : ev ρ x = str a) (hy : ev ρ y = str b) : QT P base ⟨dst, .binOp .add T x y U, t, p, af, g⟩ ρ O (str (a ++ b)) := fun w _ => by
 have e : (ByteArray.mk a.toArray ++ ByteArray.mk b.toArray : ByteArray) = ByteArray.mk (a ++ b).toArray := by
  apply ByteArray.ext; simp
 have h1 : (ByteArray.mk a.toArray).size = a.length := by show a.toArray.size = _; simp
 have h2 : (ByteArray.mk b.toArray).size = b.length := by show b.toArray.size = _; simp
 simp [execOp, hx, hy, eqGuard, binOp, str, Op.stringOp, e, h1, h2]
 omega
theorem q_sliceData {x : Operand} {T : TypeId} {b : Option Addr} {m c c' k : Nat} {E : TypeId} {cs : List Value} (hx : ev ρ x = .slice b m c) (hc : c ≠ 0 ∨ b = none) : QT P base ⟨dst, .call ⟨.builtin .unsafeSliceData, #[x], #[T]⟩, t, p, af, g⟩ ρ O (.pointer b) := fun w _ => by
 cases b with
 | none => simp [execOp, resolve, hx, invoke, builtin, Lib.run_unsafeSliceData_nil]
 | some a =>
  have h0 : c ≠ 0 := hc.resolve_right (fun e => by cases e)
  simp [execOp, resolve, hx, invoke, builtin, Lib.run_unsafeSliceData_row _ _ _ _ _ _ h0]
theorem liesAt_off {e : TypeId} (hc : P.cellsOf e = 1) (count off n : Nat) (hn : off + n ≤ count) : liesAt P P.depth e count off e n = true := by
 have hd : P.depth = (2 * (P.types.size + Made.depth) + 1) + 1 := rfl
 rw [hd]
 simp only [liesAt, Bool.or_eq_true]
 left
 rw [hd]
 simp [rowAt, hc, hn, sameLayout]
 exact .inl (Nat.mod_one _)
theorem run_unsafeString_at {w : World} (pt it ty e : TypeId) (hp : P.underlying pt = some (.pointer e)) (hc : P.cellsOf e = 1) (b o cells : Nat) (hsh : w.shape? b = some (e, cells)) (l : List UInt8) (h0 : l ≠ []) (hn : o + l.length ≤ cells) (h63 : l.length ≤ 9223372036854775807)
  (hcell : ∀ j x, l[j]? = some x → w.cell? ((⟨b, o, none⟩ : Addr).add j) = some (.int .u8 x.toNat)) :
  (Builtin.unsafeString_ #[pt, it] ty #[.pointer (some ⟨b, o, none⟩), .int .i64 l.length]).run P w = .ok (.string ⟨l.toArray⟩) (w.freeze ⟨b, o, none⟩ l.length) := by
 have hl : l.length ≠ 0 := by simpa using h0
 have hlb := Lib.run_loadBytes (P := P) w l ⟨b, o, none⟩ .empty hcell
 have hlies := liesAt_off (P := P) hc (cells / P.cellsOf e) o l.length (by rw [hc]; simpa using hn)
 have h63' : ¬ (9223372036854775807 : Int) < (l.length : Int) := by omega
 have hdef : Builtin.unsafeString_ #[pt, it] ty #[.pointer (some ⟨b, o, none⟩), .int .i64 l.length] =
   (do
    let n ← asInt (.int .i64 l.length)
    if n < 0 then runtimePanic (.error "unsafe.String: len out of range")
    if n > IntKind.i64.max then unsupported (.unsafePointer "String: a length above the largest int")
    if n = 0 then pure (.string .empty)
    else if ← variablesAt ⟨b, o, none⟩ (← elemOf pt) n.toNat then do
     let s ← loadBytes ⟨b, o, none⟩ .empty n.toNat
     freeze ⟨b, o, none⟩ n.toNat
     pure (.string s)
    else unsupported (.unsafePointer "String: not so many bytes at ptr")) := rfl
 rw [hdef]
 have hmax : IntKind.i64.max = 9223372036854775807 := rfl
 have hneg : ¬ (l.length : Int) < 0 := by omega
 simp [asInt, asIntOf, hmax, h63', hneg, hl, variablesAt, hsh, elemOf, run_underlying hp, hlies, hlb]
theorem Inv.freeze {it : Item} {w : World} {a : Addr} {m : Nat} (hI : Inv base (it :: O) w) (ha : a.block ∈ it.blocks) : Inv base O (w.freeze a m) := by
 have hb : ∀ b, b ∉ it.blocks → (w.freeze a m).heap[b]? = w.heap[b]? := fun b hb => by
  unfold World.freeze
  split
  ·rfl
  ·simp only [Array.getElem?_modify]
   rw [if_neg (fun e => hb (by rw [← e]; exact ha))]
 have hs : w.heap.size ≤ (w.freeze a m).heap.size := by unfold World.freeze; split <;> simp
 have ho : (w.freeze a m).os = w.os := by unfold World.freeze; split <;> rfl
 have ht : (w.freeze a m).tape = w.tape := by unfold World.freeze; split <;> rfl
 have hp : (w.freeze a m).output = w.output := by unfold World.freeze; split <;> rfl
 exact hI.step (A := []) (N := []) ho ht hp hs (fun b _ hn => hb b hn) (fun x hx => (List.not_mem_nil hx).elim) (fun x hx => (List.not_mem_nil hx).elim) List.nodup_nil
theorem l_unsafeString {x y : Operand} {PT IT E : TypeId} {b : Option Addr} {c : Nat} {l : List UInt8} {O1 : List Item} (hp : P.underlying PT = some (.pointer E)) (hc : P.cellsOf E = 1) (hx : ev ρ x = .pointer b) (hy : ev ρ y = .int .i64 (l.length : Int)) (h63 : l.length ≤ 9223372036854775807) (hO : O = rowI b c E 1 (cells8 l) :: O1)
  (h : K (upd ρ d (str l)) O1) (hn : Nat.blt d n = true := by rfl) : LT P r base n ⟨some d, .call ⟨.builtin .unsafeString, #[x, y], #[PT, IT]⟩, t, p, af, g⟩ ρ O K :=
 LT.of_run hn fun w M hI => by
  subst hO
  by_cases h0 : l = []
  ·subst h0
   have e : str [] = .string .empty := rfl
   refine ⟨str [], w, O1, ?_, hI.sub (List.sublist_cons_self _ _), h⟩
   have hr := Lib.run_unsafeString_none (P := P) (w := w) PT IT t b
   simp [execOp, resolve, hx, hy, invoke, builtin, hr, e]
  ·have hrow : rowP b c E 1 (cells8 l) w := hI.holds _ List.mem_cons_self
   cases b with
   | none => obtain ⟨he, _⟩ := hrow; exact absurd (by simpa using he) h0
   | some a =>
    obtain ⟨bk, o, sp⟩ := a
    obtain ⟨hsp, full, hb, h1, h2, h3⟩ := hrow
    simp only at hsp hb h1 h2 h3
    subst hsp
    have hsh : w.shape? bk = some (E, full.size) := by simp [World.shape?, hb]
    simp only [List.length_map, Nat.mul_one] at h1 h2
    have hr := run_unsafeString_at (P := P) (w := w) PT IT t E hp hc bk o full.size hsh l h0 (by omega) h63 (fun j z hz => by
     have hj := (List.getElem?_eq_some_iff.1 hz)
     have h4 := h3 j (by simpa using hj.1)
     simp only [List.getElem_map] at h4
     rw [hj.2] at h4
     rw [add_off]
     simp only [World.cell?, hb]
     simpa using h4)
    refine ⟨str l, w.freeze ⟨bk, o, none⟩ l.length, O1, ?_, Inv.freeze (it := rowI (some ⟨bk, o, none⟩) c E 1 (cells8 l)) hI (by simp [rowI]), h⟩
    simp [execOp, resolve, hx, hy, invoke, builtin, hr, str]
end
end Go.Lx


namespace Go.Proofs.YtnikhiohindggaaDoor
open Go.Lx Go.RowKit _root_.Go.Proofs.Tryd
theorem mixed : Tryd.prog.follows .mixedOrders = true := by kernel_rfl
theorem inf3 : Inf Tryd.prog 3 (.int .i64 0) 1 8 := by unfold Inf; kernel_rfl
theorem inf4 : Inf Tryd.prog 4 (.bool false) 1 1 := by unfold Inf; kernel_rfl
theorem inf5 : Inf Tryd.prog 5 (.int .u8 0) 1 1 := by unfold Inf; kernel_rfl
theorem inf9 : Inf Tryd.prog 9 ((.string ByteArray.empty)) 1 16 := by unfold Inf; kernel_rfl
theorem inf22 : Inf Tryd.prog 22 ((.slice none 0 0)) 1 24 := by unfold Inf; kernel_rfl
theorem inf23 : Inf Tryd.prog 23 ((.slice none 0 0)) 1 24 := by unfold Inf; kernel_rfl
theorem inf25 : Inf Tryd.prog 25 ((.agg #[(.int .i64 0), (.int .i64 0), (.slice none 0 0), (.slice none 0 0)])) 4 64 := by unfold Inf; kernel_rfl
theorem inf26 : Inf Tryd.prog 26 ((.slice none 0 0)) 1 24 := by unfold Inf; kernel_rfl
theorem inf28 : Inf Tryd.prog 28 ((.agg #[(.slice none 0 0), (.slice none 0 0)])) 2 48 := by unfold Inf; kernel_rfl
theorem inf74 : Inf Tryd.prog 74 (.nilFunc) 1 8 := by unfold Inf; kernel_rfl
theorem inf76 : Inf Tryd.prog 76 ((.agg #[(.int .i64 0), .nilFunc])) 2 16 := by unfold Inf; kernel_rfl
theorem inf78 : Inf Tryd.prog 78 (.nilFunc) 1 8 := by unfold Inf; kernel_rfl
theorem inf79 : Inf Tryd.prog 79 (.map none) 1 8 := by unfold Inf; kernel_rfl
theorem inf81 : Inf Tryd.prog 81 ((.slice none 0 0)) 1 24 := by unfold Inf; kernel_rfl
theorem inf86 : Inf Tryd.prog 86 ((.agg #[(.int .i64 0), (.string ByteArray.empty)])) 2 24 := by unfold Inf; kernel_rfl
theorem inf103 : Inf Tryd.prog 103 (.nilFunc) 1 8 := by unfold Inf; kernel_rfl
theorem inf105 : Inf Tryd.prog 105 (.pointer none) 1 8 := by unfold Inf; kernel_rfl
theorem inf107 : Inf Tryd.prog 107 ((.agg #[(.pointer none), (.slice none 0 0)])) 2 32 := by unfold Inf; kernel_rfl
theorem inf120 : Inf Tryd.prog 120 ((.agg #[(.int .i64 0), (.int .i64 0), (.int .u8 0)])) 3 24 := by unfold Inf; kernel_rfl
theorem plan25 : Plan Tryd.prog 25 [(0, 1), (1, 1), (2, 1), (3, 1)] := ⟨_, underlying25, fun w => by simp [run_sizeOf' inf3, run_sizeOf' inf22, run_sizeOf' inf23]⟩
theorem plan28 : Plan Tryd.prog 28 [(0, 1), (1, 1)] := ⟨_, underlying28, fun w => by simp [run_sizeOf' inf26]⟩
theorem plan76 : Plan Tryd.prog 76 [(0, 1), (1, 1)] := ⟨_, underlying76, fun w => by simp [run_sizeOf' inf3, run_sizeOf' inf74]⟩
theorem plan86 : Plan Tryd.prog 86 [(0, 1), (1, 1)] := ⟨_, underlying86, fun w => by simp [run_sizeOf' inf3, run_sizeOf' inf9]⟩
theorem plan120 : Plan Tryd.prog 120 [(0, 1), (1, 1), (2, 1)] := ⟨_, underlying120, fun w => by simp [run_sizeOf' inf3, run_sizeOf' inf5]⟩
theorem ent10 : Lx.Enters Tryd.prog 10 f10 := ⟨func10, by kernel_rfl, rfl⟩
theorem ent12 : Lx.Enters Tryd.prog 12 f12 := ⟨func12, by kernel_rfl, rfl⟩
theorem ent15 : Lx.Enters Tryd.prog 15 f15 := ⟨func15, by kernel_rfl, rfl⟩
theorem ent17 : Lx.Enters Tryd.prog 17 f17 := ⟨func17, by kernel_rfl, rfl⟩
theorem ent18 : Lx.Enters Tryd.prog 18 f18 := ⟨func18, by kernel_rfl, rfl⟩
theorem ent20 : Lx.Enters Tryd.prog 20 f20 := ⟨func20, by kernel_rfl, rfl⟩
theorem ent21 : Lx.Enters Tryd.prog 21 f21 := ⟨func21, by kernel_rfl, rfl⟩
theorem ent24 : Lx.Enters Tryd.prog 24 f24 := ⟨func24, by kernel_rfl, rfl⟩
theorem ent25 : Lx.Enters Tryd.prog 25 f25 := ⟨func25, by kernel_rfl, rfl⟩
theorem ent27 : Lx.Enters Tryd.prog 27 f27 := ⟨func27, by kernel_rfl, rfl⟩
theorem ent29 : Lx.Enters Tryd.prog 29 f29 := ⟨func29, by kernel_rfl, rfl⟩
theorem ent30 : Lx.Enters Tryd.prog 30 f30 := ⟨func30, by kernel_rfl, rfl⟩
theorem ent31 : Lx.Enters Tryd.prog 31 f31 := ⟨func31, by kernel_rfl, rfl⟩
theorem ent32 : Lx.Enters Tryd.prog 32 f32 := ⟨func32, by kernel_rfl, rfl⟩
theorem ent33 : Lx.Enters Tryd.prog 33 f33 := ⟨func33, by kernel_rfl, rfl⟩
theorem ent34 : Lx.Enters Tryd.prog 34 f34 := ⟨func34, by kernel_rfl, rfl⟩
theorem ent35 : Lx.Enters Tryd.prog 35 f35 := ⟨func35, by kernel_rfl, rfl⟩
theorem ent38 : Lx.Enters Tryd.prog 38 f38 := ⟨func38, by kernel_rfl, rfl⟩
theorem ent39 : Lx.Enters Tryd.prog 39 f39 := ⟨func39, by kernel_rfl, rfl⟩
theorem ent41 : Lx.Enters Tryd.prog 41 f41 := ⟨func41, by kernel_rfl, rfl⟩
theorem ent44 : Lx.Enters Tryd.prog 44 f44 := ⟨func44, by kernel_rfl, rfl⟩
theorem ent45 : Lx.Enters Tryd.prog 45 f45 := ⟨func45, by kernel_rfl, rfl⟩
theorem ent46 : Lx.Enters Tryd.prog 46 f46 := ⟨func46, by kernel_rfl, rfl⟩
theorem ent47 : Lx.Enters Tryd.prog 47 f47 := ⟨func47, by kernel_rfl, rfl⟩
theorem ent50 : Lx.Enters Tryd.prog 50 f50 := ⟨func50, by kernel_rfl, rfl⟩
theorem ent51 : Lx.Enters Tryd.prog 51 f51 := ⟨func51, by kernel_rfl, rfl⟩
theorem ent52 : Lx.Enters Tryd.prog 52 f52 := ⟨func52, by kernel_rfl, rfl⟩
theorem ent53 : Lx.Enters Tryd.prog 53 f53 := ⟨func53, by kernel_rfl, rfl⟩
theorem ent54 : Lx.Enters Tryd.prog 54 f54 := ⟨func54, by kernel_rfl, rfl⟩
theorem ent55 : Lx.Enters Tryd.prog 55 f55 := ⟨func55, by kernel_rfl, rfl⟩
theorem ent57 : Lx.Enters Tryd.prog 57 f57 := ⟨func57, by kernel_rfl, rfl⟩
theorem ent58 : Lx.Enters Tryd.prog 58 f58 := ⟨func58, by kernel_rfl, rfl⟩
theorem ent60 : Lx.Enters Tryd.prog 60 f60 := ⟨func60, by kernel_rfl, rfl⟩
theorem ent61 : Lx.Enters Tryd.prog 61 f61 := ⟨func61, by kernel_rfl, rfl⟩
theorem ent62 : Lx.Enters Tryd.prog 62 f62 := ⟨func62, by kernel_rfl, rfl⟩
theorem ent63 : Lx.Enters Tryd.prog 63 f63 := ⟨func63, by kernel_rfl, rfl⟩
theorem ent64 : Lx.Enters Tryd.prog 64 f64 := ⟨func64, by kernel_rfl, rfl⟩
theorem ent65 : Lx.Enters Tryd.prog 65 f65 := ⟨func65, by kernel_rfl, rfl⟩
theorem ent66 : Lx.Enters Tryd.prog 66 f66 := ⟨func66, by kernel_rfl, rfl⟩
theorem ent67 : Lx.Enters Tryd.prog 67 f67 := ⟨func67, by kernel_rfl, rfl⟩
theorem ent68 : Lx.Enters Tryd.prog 68 f68 := ⟨func68, by kernel_rfl, rfl⟩
theorem ent69 : Lx.Enters Tryd.prog 69 f69 := ⟨func69, by kernel_rfl, rfl⟩
theorem ent70 : Lx.Enters Tryd.prog 70 f70 := ⟨func70, by kernel_rfl, rfl⟩
theorem ent71 : Lx.Enters Tryd.prog 71 f71 := ⟨func71, by kernel_rfl, rfl⟩
theorem ent72 : Lx.Enters Tryd.prog 72 f72 := ⟨func72, by kernel_rfl, rfl⟩
theorem ent73 : Lx.Enters Tryd.prog 73 f73 := ⟨func73, by kernel_rfl, rfl⟩
theorem ent74 : Lx.Enters Tryd.prog 74 f74 := ⟨func74, by kernel_rfl, rfl⟩
theorem ent76 : Lx.Enters Tryd.prog 76 f76 := ⟨func76, by kernel_rfl, rfl⟩
theorem ent77 : Lx.Enters Tryd.prog 77 f77 := ⟨func77, by kernel_rfl, rfl⟩
theorem ent78 : Lx.Enters Tryd.prog 78 f78 := ⟨func78, by kernel_rfl, rfl⟩
theorem ent79 : Lx.Enters Tryd.prog 79 f79 := ⟨func79, by kernel_rfl, rfl⟩
theorem ent80 : Lx.Enters Tryd.prog 80 f80 := ⟨func80, by kernel_rfl, rfl⟩
theorem ent81 : Lx.Enters Tryd.prog 81 f81 := ⟨func81, by kernel_rfl, rfl⟩
theorem ent82 : Lx.Enters Tryd.prog 82 f82 := ⟨func82, by kernel_rfl, rfl⟩
theorem ent83 : Lx.Enters Tryd.prog 83 f83 := ⟨func83, by kernel_rfl, rfl⟩
theorem ent84 : Lx.Enters Tryd.prog 84 f84 := ⟨func84, by kernel_rfl, rfl⟩
theorem ent85 : Lx.Enters Tryd.prog 85 f85 := ⟨func85, by kernel_rfl, rfl⟩
theorem ent86 : Lx.Enters Tryd.prog 86 f86 := ⟨func86, by kernel_rfl, rfl⟩
theorem ent87 : Lx.Enters Tryd.prog 87 f87 := ⟨func87, by kernel_rfl, rfl⟩
theorem ent88 : Lx.Enters Tryd.prog 88 f88 := ⟨func88, by kernel_rfl, rfl⟩
theorem ent89 : Lx.Enters Tryd.prog 89 f89 := ⟨func89, by kernel_rfl, rfl⟩
theorem ent90 : Lx.Enters Tryd.prog 90 f90 := ⟨func90, by kernel_rfl, rfl⟩
theorem ent91 : Lx.Enters Tryd.prog 91 f91 := ⟨func91, by kernel_rfl, rfl⟩
theorem ent92 : Lx.Enters Tryd.prog 92 f92 := ⟨func92, by kernel_rfl, rfl⟩
theorem ent93 : Lx.Enters Tryd.prog 93 f93 := ⟨func93, by kernel_rfl, rfl⟩
theorem ent94 : Lx.Enters Tryd.prog 94 f94 := ⟨func94, by kernel_rfl, rfl⟩
theorem ent95 : Lx.Enters Tryd.prog 95 f95 := ⟨func95, by kernel_rfl, rfl⟩
theorem ent97 : Lx.Enters Tryd.prog 97 f97 := ⟨func97, by kernel_rfl, rfl⟩
theorem ent98 : Lx.Enters Tryd.prog 98 f98 := ⟨func98, by kernel_rfl, rfl⟩
theorem ent99 : Lx.Enters Tryd.prog 99 f99 := ⟨func99, by kernel_rfl, rfl⟩
theorem ent100 : Lx.Enters Tryd.prog 100 f100 := ⟨func100, by kernel_rfl, rfl⟩
theorem ent101 : Lx.Enters Tryd.prog 101 f101 := ⟨func101, by kernel_rfl, rfl⟩
theorem ent102 : Lx.Enters Tryd.prog 102 f102 := ⟨func102, by kernel_rfl, rfl⟩
theorem ent105 : Lx.Enters Tryd.prog 105 f105 := ⟨func105, by kernel_rfl, rfl⟩
end Go.Proofs.YtnikhiohindggaaDoor


namespace Go.Proofs.YtnikhiohindggaaDoor
open Go.Lx Go.RowKit _root_.Go.Proofs.Tryd
theorem equalInts (w : World) (b1 b2 : Option Addr) (c1 c2 : Nat) (xs ys : List Int) (h1 : Sl w b1 (ints xs)) (h2 : Sl w b2 (ints ys)) (hb : xs.length < 9223372036854775807) :
  PureT Tryd.prog 39 [(.slice b1 xs.length c1), (.slice b2 ys.length c2)] w fun v N => v = .bool (decide (xs = ys)) ∧ N = [] := by
 refine CallT.enter func39 rfl ntmps39 rfl ?_
 refine T.s (T.rg (TO.qa rfl (TO.nl (T.s (T.s (T.rg (TO.qm rfl (TO.q (q_len underlying23 rfl) (TO.qm rfl (TO.q (q_len underlying23 rfl) (TO.q (q_neq rfl rfl) (TO.nl (T.condP rfl (fun hc => ?_) (fun hc => ?_))))))))))))))
 ·have hlt10 : xs.length ≠ ys.length := by omega
  have hlen : xs.length ≠ ys.length := by omega
  refine T.s (T.rg (TO.qa rfl (TO.nl (T.ret ?_))))
  refine Res.one (.bool false) Tryd.results39 rfl ?_
  exact ⟨congrArg Value.bool (decide_eq_false (fun e => hlen (by rw [e]))).symm, rfl⟩
 have hge10 : ¬ xs.length ≠ ys.length := by omega
 have hlen : xs.length = ys.length := by omega
 refine T.skip (T.s (T.s (T.rg (TO.qa rfl (TO.nl (T.block ?_))))))
 refine T.loop (fun (k : Nat) ρ O => O = [] ∧ k ≤ xs.length ∧ xs.take k = ys.take k ∧ Heads [(0, (.slice b1 xs.length c1)), (1, (.slice b2 ys.length c2)), (5, vI (k : Int))] ρ) (fun k => xs.length - k) 0 ?_ ?_
 ·exact ⟨rfl, Nat.zero_le _, rfl, ⟨rfl, rfl, rfl, trivial⟩⟩
 rintro k ρ O ⟨rfl, hk, he, hH⟩
 obtain ⟨ρ0, rfl⟩ := hH.elim
 clear hH
 refine T.s (T.s (T.rg (TO.qm rfl (TO.qm rfl (TO.q (q_len underlying23 rfl) (TO.q (q_lss rfl rfl) (TO.nl (T.condP rfl (fun hc => ?_) (fun hc => ?_)))))))))
 ·have hlt14 : k < xs.length := by omega
  have hlt : k < xs.length := by omega
  have hlt2 : k < ys.length := by omega
  obtain ⟨kb1, ko1, rfl⟩ := h1.addr (i := k) (by simpa using hlt)
  obtain ⟨kb2, ko2, rfl⟩ := h2.addr (i := k) (by simpa using hlt2)
  refine T.skip (T.s (T.block (T.s ?_)))
  refine T.draws _ [(0, 0), (1, 0), (2, 0), (3, 0), (4, 0), (5, 0), (6, 0), (7, 0), (8, 0)] mixed (by kernel_rfl) (Sub.of (List.Sublist.refl _)) (fun _ _ _ h => h) ?_
  refine DO.q rfl (q_move rfl) (DO.q rfl (q_move rfl) (DO.q rfl (q_idx underlying23 inf3 rfl rfl hlt) (DO.q rfl (q_load_sl underlying3 rfl rfl h1 (ints_get hlt)) (DO.q rfl (q_move rfl) (DO.q rfl (q_move rfl) (DO.q rfl (q_idx underlying23 inf3 rfl rfl hlt2) (DO.q rfl (q_load_sl underlying3 rfl rfl h2 (ints_get hlt2)) (DO.q rfl (q_neq rfl rfl) ?_))))))))
  refine DO.done ?_
  refine T.condP (p := ¬ xs[k] = ys[k]) rfl (fun hc => ?_) (fun hc => ?_)
  ·refine T.s ?_
   refine T.rg (TO.qa rfl (TO.nl (T.ret ?_)))
   refine Res.one (.bool false) Tryd.results39 rfl ?_
   exact ⟨congrArg Value.bool (decide_eq_false (fun e => hc (by subst e; rfl))).symm, rfl⟩
  refine T.skip (T.rg (TO.qm rfl (TO.q (q_inc rfl rfl (by omega)) (TO.qa rfl (TO.nl ?_)))))
  refine ⟨k + 1, by omega, rfl, by omega, ?_, ⟨rfl, rfl, rfl, trivial⟩⟩
  rw [List.take_succ_eq_append_getElem hlt, List.take_succ_eq_append_getElem hlt2, he]
  exact congrArg _ (congrArg (fun z => [z]) (Classical.not_not.1 hc))
 have hge14 : ¬ k < xs.length := by omega
 refine T.exit ?_
 refine T.s (T.rg (TO.qa rfl (TO.nl (T.ret ?_))))
 refine Res.one (.bool true) Tryd.results39 rfl ?_
 exact ⟨congrArg Value.bool (decide_eq_true (show xs = ys by rw [List.take_of_length_le (by omega), List.take_of_length_le (by omega)] at he; exact he)).symm, rfl⟩
end Go.Proofs.YtnikhiohindggaaDoor


namespace Go.Proofs.YtnikhiohindggaaDoor
open Go.Lx Go.RowKit _root_.Go.Proofs.Tryd
end Go.Proofs.YtnikhiohindggaaDoor


namespace Go.Proofs.YtnikhiohindggaaDoor
open Go.Lx Go.RowKit _root_.Go.Proofs.Tryd
end Go.Proofs.YtnikhiohindggaaDoor


namespace Go.Proofs.YtnikhiohindggaaDoor
open Go.Lx Go.RowKit _root_.Go.Proofs.Tryd
theorem letters (w : World) [Tab Tryd.prog w] (b1 b2 : Option Addr) (c1 c2 : Nat) (xs ys : List Nat) (h1 : Sl w b1 (byts xs)) (h2 : Sl w b2 (byts ys)) (hb : xs.length < 9223372036854775807) :
  PureT Tryd.prog 50 [(.slice b1 xs.length c1), (.slice b2 ys.length c2)] w fun v N => v = .bool (decide (xs = ys)) ∧ N = [] := by
 refine CallT.enter func50 rfl ntmps50 rfl ?_
 refine T.s (T.rg (TO.qa rfl (TO.nl (T.s (T.s (T.rg (TO.qm rfl (TO.q (q_len underlying26 rfl) (TO.qm rfl (TO.q (q_len underlying26 rfl) (TO.q (q_neq rfl rfl) (TO.nl (T.condP rfl (fun hc => ?_) (fun hc => ?_))))))))))))))
 ·have hlt10 : xs.length ≠ ys.length := by omega
  have hlen : xs.length ≠ ys.length := by omega
  refine T.s (T.rg (TO.qa rfl (TO.nl (T.ret ?_))))
  refine Res.one (.bool false) Tryd.results50 rfl ?_
  exact ⟨congrArg Value.bool (decide_eq_false (fun e => hlen (by rw [e]))).symm, rfl⟩
 have hge10 : ¬ xs.length ≠ ys.length := by omega
 have hlen : xs.length = ys.length := by omega
 refine T.skip (T.s (T.s (T.rg (TO.qa rfl (TO.nl (T.block ?_))))))
 refine T.loop (fun (k : Nat) ρ O => O = [] ∧ k ≤ xs.length ∧ xs.take k = ys.take k ∧ Heads [(0, (.slice b1 xs.length c1)), (1, (.slice b2 ys.length c2)), (5, vI (k : Int))] ρ) (fun k => xs.length - k) 0 ?_ ?_
 ·exact ⟨rfl, Nat.zero_le _, rfl, ⟨rfl, rfl, rfl, trivial⟩⟩
 rintro k ρ O ⟨rfl, hk, he, hH⟩
 obtain ⟨ρ0, rfl⟩ := hH.elim
 clear hH
 refine T.s (T.s (T.rg (TO.qm rfl (TO.qm rfl (TO.q (q_len underlying26 rfl) (TO.q (q_lss rfl rfl) (TO.nl (T.condP rfl (fun hc => ?_) (fun hc => ?_)))))))))
 ·have hlt14 : k < xs.length := by omega
  have hlt : k < xs.length := by omega
  have hlt2 : k < ys.length := by omega
  obtain ⟨kb1, ko1, rfl⟩ := h1.addr (i := k) (by simpa using hlt)
  obtain ⟨kb2, ko2, rfl⟩ := h2.addr (i := k) (by simpa using hlt2)
  refine T.skip (T.s (T.block (T.s ?_)))
  refine T.draws _ [(0, 0), (1, 0), (2, 0), (3, 0), (4, 0), (5, 0), (6, 0), (7, 0), (8, 0)] mixed (by kernel_rfl) (Sub.of (List.Sublist.refl _)) (fun _ _ _ h => h) ?_
  refine DO.q rfl (q_move rfl) (DO.q rfl (q_move rfl) (DO.q rfl (q_idx underlying26 inf5 rfl rfl hlt) (DO.q rfl (q_load_sl underlying5 rfl rfl h1 (byts_get hlt)) (DO.q rfl (q_move rfl) (DO.q rfl (q_move rfl) (DO.q rfl (q_idx underlying26 inf5 rfl rfl hlt2) (DO.q rfl (q_load_sl underlying5 rfl rfl h2 (byts_get hlt2)) (DO.q rfl (q_neq rfl rfl) ?_))))))))
  refine DO.done ?_
  refine T.condP (p := ¬ xs[k] = ys[k]) (congrArg Value.bool (decide_eq_decide.2 (by omega))) (fun hc => ?_) (fun hc => ?_)
  ·have hlt25 : xs[k] ≠ ys[k] := by omega
   refine T.s (T.rg (TO.qa rfl (TO.nl (T.ret ?_))))
   refine Res.one (.bool false) Tryd.results50 rfl ?_
   exact ⟨congrArg Value.bool (decide_eq_false (fun e => hc (by subst e; rfl))).symm, rfl⟩
  have hge25 : ¬ xs[k] ≠ ys[k] := by omega
  refine T.skip (T.rg (TO.qm rfl (TO.q (q_addN (a := k) (b := 1) rfl rfl (by omega)) (TO.qa rfl (TO.nl ?_)))))
  refine ⟨k + 1, by omega, rfl, by omega, ?_, ⟨rfl, rfl, rfl, trivial⟩⟩
  rw [List.take_succ_eq_append_getElem hlt, List.take_succ_eq_append_getElem hlt2, he]
  exact congrArg _ (congrArg (fun z => [z]) (Classical.not_not.1 hc))
 have hge14 : ¬ k < xs.length := by omega
 refine T.exit ?_
 refine T.s (T.rg (TO.qa rfl (TO.nl (T.ret ?_))))
 refine Res.one (.bool true) Tryd.results50 rfl ?_
 exact ⟨congrArg Value.bool (decide_eq_true (show xs = ys by rw [List.take_of_length_le (by omega), List.take_of_length_le (by omega)] at he; exact he)).symm, rfl⟩
theorem isF (w : World) [Tab Tryd.prog w] (l : La) (pb lb : Option Addr) (pc lc : Nat) (h : LaAt w l pb lb pc lc) (hb1 : l.pre.length ≤ 1000000) (hb2 : l.loop.length ≤ 1000000) (l2 : La) (pb2 lb2 : Option Addr) (pc2 lc2 : Nat) (h2 : LaAt w l2 pb2 lb2 pc2 lc2) :
  PureT Tryd.prog 24 [.agg (laCells l pb pc lb lc).toArray, .agg (laCells l2 pb2 pc2 lb2 lc2).toArray] w fun v N => v = .bool (decide (l = l2)) ∧ N = [] := by
 refine CallT.enter func24 rfl ntmps24 rfl ?_
 refine T.s (T.rg (TO.l rfl (l_box (v := (.agg (laCells l pb pc lb lc).toArray)) (cs := (laCells l pb pc lb lc)) rfl rfl (fun bx1 => ?_))))
 refine TO.l rfl (l_box (v := (.agg (laCells l2 pb2 pc2 lb2 lc2).toArray)) (cs := (laCells l2 pb2 pc2 lb2 lc2)) rfl rfl (fun bx2 => ?_))
 refine TO.qa rfl (TO.nl (T.s (T.rg (TO.q (q_fa underlying28 rfl inf26 rfl rfl) (TO.q (q_lb 1 underlying26 rfl rfl rfl rfl) (TO.q (q_fa underlying28 rfl inf26 rfl rfl) (TO.q (q_lb 0 underlying26 rfl rfl rfl rfl) ?_)))))))
 by_cases e1 : l.pre = l2.pre
 ·have hk9 := fun (w1 : World) (hI : Inv w [oI bx2 28 (laCells l2 pb2 pc2 lb2 lc2), oI bx1 28 (laCells l pb pc lb lc)] w1) => (haveI := Inv.tab (P := Tryd.prog) hI; letters w1 pb pb2 pc pc2 l.pre l2.pre (hI.sl h.pre) (hI.sl h2.pre) (by omega))
  refine TO.l rfl (l_call ent50 (CallT.op hk9) rfl ?_)
  clear hk9
  rintro vr O' ⟨N, rfl, rfl, rfl⟩
  rw [decide_eq_true e1]
  refine TO.qm rfl (TO.gq rfl rfl (q_fa underlying28 rfl inf26 rfl rfl) (TO.gq rfl rfl (q_lb 1 underlying26 rfl rfl rfl rfl) (TO.gq rfl rfl (q_fa underlying28 rfl inf26 rfl rfl) (TO.gq rfl rfl (q_lb 0 underlying26 rfl rfl rfl rfl) ?_))))
  by_cases e2 : l.loop = l2.loop
  ·have hk15 := fun (w1 : World) (hI : Inv w [oI bx2 28 (laCells l2 pb2 pc2 lb2 lc2), oI bx1 28 (laCells l pb pc lb lc)] w1) => (haveI := Inv.tab (P := Tryd.prog) hI; letters w1 lb lb2 lc lc2 l.loop l2.loop (hI.sl h.loop) (hI.sl h2.loop) (by omega))
   refine TO.gd rfl rfl rfl (l_call ent50 (CallT.op hk15) rfl ?_)
   clear hk15
   rintro vr O' ⟨N, rfl, rfl, rfl⟩
   rw [decide_eq_true e2]
   refine TO.q (q_pick1 rfl rfl) (TO.qa rfl (TO.nl (T.ret (Res.drop ?_))))
   refine Res.one (.bool true) Tryd.results24 rfl ?_
   refine ⟨[], Sub.of (List.nil_sublist _), congrArg Value.bool (decide_eq_true ?_).symm, rfl⟩
   cases l; cases l2; simp only at e1 e2; rw [e1, e2]
  have hk15 := fun (w1 : World) (hI : Inv w [oI bx2 28 (laCells l2 pb2 pc2 lb2 lc2), oI bx1 28 (laCells l pb pc lb lc)] w1) => (haveI := Inv.tab (P := Tryd.prog) hI; letters w1 lb lb2 lc lc2 l.loop l2.loop (hI.sl h.loop) (hI.sl h2.loop) (by omega))
  refine TO.gd rfl rfl rfl (l_call ent50 (CallT.op hk15) rfl ?_)
  clear hk15
  rintro vr O' ⟨N, rfl, rfl, rfl⟩
  rw [decide_eq_false e2]
  refine TO.q (q_pick1 rfl rfl) (TO.qa rfl (TO.nl (T.ret (Res.drop ?_))))
  refine Res.one (.bool false) Tryd.results24 rfl ?_
  refine ⟨[], Sub.of (List.nil_sublist _), congrArg Value.bool (decide_eq_false (fun e => ?_)).symm, rfl⟩
  subst e; first | exact e1 rfl | exact e2 rfl
 have hk9 := fun (w1 : World) (hI : Inv w [oI bx2 28 (laCells l2 pb2 pc2 lb2 lc2), oI bx1 28 (laCells l pb pc lb lc)] w1) => (haveI := Inv.tab (P := Tryd.prog) hI; letters w1 pb pb2 pc pc2 l.pre l2.pre (hI.sl h.pre) (hI.sl h2.pre) (by omega))
 refine TO.l rfl (l_call ent50 (CallT.op hk9) rfl ?_)
 clear hk9
 rintro vr O' ⟨N, rfl, rfl, rfl⟩
 rw [decide_eq_false e1]
 refine TO.qm rfl (TO.pd rfl rfl (TO.pd rfl rfl (TO.pd rfl rfl (TO.pd rfl rfl (TO.pd rfl rfl (TO.q (q_pick0 rfl rfl) (TO.qa rfl (TO.nl (T.ret (Res.drop ?_))))))))))
 refine Res.one (.bool false) Tryd.results24 rfl ?_
 refine ⟨[], Sub.of (List.nil_sublist _), congrArg Value.bool (decide_eq_false (fun e => ?_)).symm, rfl⟩
 subst e; first | exact e1 rfl | exact e2 rfl
theorem indexFuncB (base : World) [Tab Tryd.prog base] (b : Option Addr) (c : Nat) (xs : List Nat) (OO : List Lx.Item) (hS : ∀ w, Inv base OO w → Sl w b (byts xs)) (hb : xs.length < 9223372036854775807) (fv : Value) (p : Nat → Bool) (hy : ∀ x ∈ xs, CallV Tryd.prog base fv [.int .u8 (x : Int)] OO (fun v O' => v = .bool (p x) ∧ O' = OO)) :
  CallT Tryd.prog base 93 [.slice b xs.length c, fv] OO (fun v O' => ∃ i : Int, v = vI i ∧ ((i = -1 ∧ xs.any p = false) ∨ ∃ (k : Nat) (hk : k < xs.length), i = (k : Int) ∧ p xs[k] = true ∧ (xs.take k).any p = false) ∧ O' = OO) := by
 refine CallT.enter func93 rfl ntmps93 rfl ?_
 refine T.s (T.rg (TO.qa rfl (TO.nl (T.s (T.s (T.rg (TO.qm rfl (TO.q (q_len underlying26 rfl) (TO.qm rfl (TO.nl (T.block ?_)))))))))))
 refine T.loop (fun (k : Nat) ρ O => O = OO ∧ k ≤ xs.length ∧ (xs.take k).any p = false ∧ Heads [(0, (.slice b xs.length c)), (1, fv), (7, vI (xs.length : Int)), (8, vI (k : Int))] ρ) (fun k => xs.length - k) 0 ?_ ?_
 ·exact ⟨rfl, Nat.zero_le _, rfl, ⟨rfl, rfl, rfl, rfl, trivial⟩⟩
 rintro k ρ O ⟨rfl, hk, hany, hH⟩
 obtain ⟨ρ0, rfl⟩ := hH.elim
 clear hH
 refine T.s (T.rg (TO.q (q_lss rfl rfl) (TO.nl (T.s (T.condP rfl (fun hc => ?_) (fun hc => ?_))))))
 ·have hlt9 : k < xs.length := by omega
  refine T.skip (T.s (T.block (T.s (T.rg (TO.qm rfl (TO.qa rfl (TO.nl (T.s (T.rg (TO.qm rfl (TO.qm rfl (TO.qm rfl (TO.q (q_ix (i := k) underlying26 inf5 rfl rfl hS hlt9 (by rw [List.length_map]; exact hlt9)) (TO.q (q_ld underlying5 rfl rfl hS (byts_get hlt9)) ?_))))))))))))))
  have hk16 := hy xs[k] (List.getElem_mem hlt9)
  refine TO.l rfl (l_callG hk16 rfl rfl ?_)
  clear hk16
  rintro vr O' ⟨rfl, rfl⟩
  refine TO.nl (T.cond rfl (fun hc => ?_) (fun hc => ?_))
  ·refine T.s ?_
   refine T.rg (TO.qm rfl (TO.qa rfl (TO.nl (T.ret (Res.drop ?_)))))
   refine Res.one (vI (k : Int)) Tryd.results93 rfl ?_
   exact ⟨_, Sub.of (List.Sublist.refl _), k, rfl, .inr ⟨k, hlt9, rfl, hc, hany⟩, rfl⟩
  refine T.skip (T.rg (TO.q (q_addN (a := k) (b := 1) rfl rfl (by omega)) (TO.qm rfl (TO.nl ?_))))
  exact ⟨k + 1, by omega, rfl, by omega, anyK_snoc hlt9 hany (by simpa using hc), ⟨rfl, rfl, rfl, rfl, trivial⟩⟩
 have hge9 : ¬ k < xs.length := by omega
 refine T.exit ?_
 refine T.s (T.rg (TO.qa rfl (TO.nl (T.ret (Res.drop ?_)))))
 refine Res.one (vI (-1)) Tryd.results93 rfl ?_
 exact ⟨_, Sub.of (List.Sublist.refl _), -1, rfl, .inl ⟨rfl, anyK_done (by omega) hany⟩, rfl⟩
theorem containsFuncB (base : World) [Tab Tryd.prog base] (b : Option Addr) (c : Nat) (xs : List Nat) (OO : List Lx.Item) (hS : ∀ w, Inv base OO w → Sl w b (byts xs)) (hb : xs.length < 9223372036854775807) (fv : Value) (p : Nat → Bool) (hy : ∀ x ∈ xs, CallV Tryd.prog base fv [.int .u8 (x : Int)] OO (fun v O' => v = .bool (p x) ∧ O' = OO)) :
  CallT Tryd.prog base 74 [.slice b xs.length c, fv] OO (fun v O' => v = .bool (xs.any p) ∧ O' = OO) := by
 refine CallT.enter func74 rfl ntmps74 rfl ?_
 refine T.s (T.rg (TO.qa rfl (TO.nl (T.s (T.rg (TO.qm rfl (TO.qm rfl ?_)))))))
 have hk7 := indexFuncB base b c xs OO hS hb fv p hy
 refine TO.l rfl (l_call ent93 hk7 rfl ?_)
 clear hk7
 rintro vr O' ⟨i, rfl, hi, rfl⟩
 refine TO.q (q_geq rfl rfl) (TO.qa rfl (TO.nl (T.ret (Res.drop ?_))))
 refine Res.one (.bool (decide (i ≥ 0))) Tryd.results74 rfl ?_
 refine ⟨_, Sub.of (List.Sublist.refl _), congrArg Value.bool ?_, rfl⟩
 rcases hi with ⟨rfl, h9⟩ | ⟨k, hk, rfl, h9, _⟩
 ·rw [h9]; decide
 ·rw [anyK_hit hk h9]; exact decide_eq_true (by omega)
theorem indexFuncI (base : World) [Tab Tryd.prog base] (b : Option Addr) (c : Nat) (xs : List Int) (OO : List Lx.Item) (hS : ∀ w, Inv base OO w → Sl w b (ints xs)) (hb : xs.length < 9223372036854775807) (fv : Value) (p : Int → Bool) (hy : ∀ x ∈ xs, CallV Tryd.prog base fv [vI x] OO (fun v O' => v = .bool (p x) ∧ O' = OO)) :
  CallT Tryd.prog base 76 [.slice b xs.length c, fv] OO (fun v O' => ∃ i : Int, v = vI i ∧ ((i = -1 ∧ xs.any p = false) ∨ ∃ (k : Nat) (hk : k < xs.length), i = (k : Int) ∧ p xs[k] = true ∧ (xs.take k).any p = false) ∧ O' = OO) := by
 refine CallT.enter func76 rfl ntmps76 rfl ?_
 refine T.s (T.rg (TO.qa rfl (TO.nl (T.s (T.s (T.rg (TO.qm rfl (TO.q (q_len underlying23 rfl) (TO.qm rfl (TO.nl (T.block ?_)))))))))))
 refine T.loop (fun (k : Nat) ρ O => O = OO ∧ k ≤ xs.length ∧ (xs.take k).any p = false ∧ Heads [(0, (.slice b xs.length c)), (1, fv), (7, vI (xs.length : Int)), (8, vI (k : Int))] ρ) (fun k => xs.length - k) 0 ?_ ?_
 ·exact ⟨rfl, Nat.zero_le _, rfl, ⟨rfl, rfl, rfl, rfl, trivial⟩⟩
 rintro k ρ O ⟨rfl, hk, hany, hH⟩
 obtain ⟨ρ0, rfl⟩ := hH.elim
 clear hH
 refine T.s (T.rg (TO.q (q_lss rfl rfl) (TO.nl (T.s (T.condP rfl (fun hc => ?_) (fun hc => ?_))))))
 ·have hlt9 : k < xs.length := by omega
  refine T.skip (T.s (T.block (T.s (T.rg (TO.qm rfl (TO.qa rfl (TO.nl (T.s (T.rg (TO.qm rfl (TO.qm rfl (TO.qm rfl (TO.q (q_ix (i := k) underlying23 inf3 rfl rfl hS hlt9 (by rw [List.length_map]; exact hlt9)) (TO.q (q_ld underlying3 rfl rfl hS (ints_get hlt9)) ?_))))))))))))))
  have hk16 := hy xs[k] (List.getElem_mem hlt9)
  refine TO.l rfl (l_callG hk16 rfl rfl ?_)
  clear hk16
  rintro vr O' ⟨rfl, rfl⟩
  refine TO.nl (T.cond rfl (fun hc => ?_) (fun hc => ?_))
  ·refine T.s ?_
   refine T.rg (TO.qm rfl (TO.qa rfl (TO.nl (T.ret (Res.drop ?_)))))
   refine Res.one (vI (k : Int)) Tryd.results76 rfl ?_
   exact ⟨_, Sub.of (List.Sublist.refl _), k, rfl, .inr ⟨k, hlt9, rfl, hc, hany⟩, rfl⟩
  refine T.skip (T.rg (TO.q (q_addN (a := k) (b := 1) rfl rfl (by omega)) (TO.qm rfl (TO.nl ?_))))
  exact ⟨k + 1, by omega, rfl, by omega, anyK_snoc hlt9 hany (by simpa using hc), ⟨rfl, rfl, rfl, rfl, trivial⟩⟩
 have hge9 : ¬ k < xs.length := by omega
 refine T.exit ?_
 refine T.s (T.rg (TO.qa rfl (TO.nl (T.ret (Res.drop ?_)))))
 refine Res.one (vI (-1)) Tryd.results76 rfl ?_
 exact ⟨_, Sub.of (List.Sublist.refl _), -1, rfl, .inl ⟨rfl, anyK_done (by omega) hany⟩, rfl⟩
theorem containsFuncI (base : World) [Tab Tryd.prog base] (b : Option Addr) (c : Nat) (xs : List Int) (OO : List Lx.Item) (hS : ∀ w, Inv base OO w → Sl w b (ints xs)) (hb : xs.length < 9223372036854775807) (fv : Value) (p : Int → Bool) (hy : ∀ x ∈ xs, CallV Tryd.prog base fv [vI x] OO (fun v O' => v = .bool (p x) ∧ O' = OO)) :
  CallT Tryd.prog base 46 [.slice b xs.length c, fv] OO (fun v O' => v = .bool (xs.any p) ∧ O' = OO) := by
 refine CallT.enter func46 rfl ntmps46 rfl ?_
 refine T.s (T.rg (TO.qa rfl (TO.nl (T.s (T.rg (TO.qm rfl (TO.qm rfl ?_)))))))
 have hk7 := indexFuncI base b c xs OO hS hb fv p hy
 refine TO.l rfl (l_call ent76 hk7 rfl ?_)
 clear hk7
 rintro vr O' ⟨i, rfl, hi, rfl⟩
 refine TO.q (q_geq rfl rfl) (TO.qa rfl (TO.nl (T.ret (Res.drop ?_))))
 refine Res.one (.bool (decide (i ≥ 0))) Tryd.results46 rfl ?_
 refine ⟨_, Sub.of (List.Sublist.refl _), congrArg Value.bool ?_, rfl⟩
 rcases hi with ⟨rfl, h9⟩ | ⟨k, hk, rfl, h9, _⟩
 ·rw [h9]; decide
 ·rw [anyK_hit hk h9]; exact decide_eq_true (by omega)
theorem tooGreat (base : World) [Tab Tryd.prog base] (v : Int) (h0 : 0 ≤ v) (h6 : v ≤ 6) (bx x : Nat) (hx : x < 256) :
  CallT Tryd.prog base 73 [.int .u8 (x : Int), .pointer (aD bx)] [oI bx 3 [(vI v)]] (fun z O' => z = .bool (decide (¬ x < 2 ^ v.toNat)) ∧ O' = [oI bx 3 [(vI v)]]) := by
 refine CallT.enter func73 rfl ntmps73 rfl ?_
 refine T.s (T.rg (TO.qa rfl (TO.nl (T.s (T.rg (TO.qm rfl (TO.q (q_conv_id underlying5 underlying3 rfl (wrap64_id ⟨by omega, by omega⟩)) (TO.q (q_lb 0 underlying3 rfl rfl rfl rfl) (TO.q (q_shl1 (v := v.toNat) rfl (by show Value.int _ v = _; rw [Int.toNat_of_nonneg h0]) (by omega)) (TO.q (q_geq rfl rfl) (TO.qa rfl (TO.nl (T.ret ?_)))))))))))))
 refine Res.one (.bool (decide ((x : Int) ≥ ((2 ^ v.toNat : Nat) : Int)))) Tryd.results73 rfl ?_
 exact ⟨congrArg Value.bool (decide_eq_decide.2 (by omega)), rfl⟩
theorem lassoCheckF (w : World) [Tab Tryd.prog w] (l : La) (pb lb : Option Addr) (pc lc : Nat) (h : LaAt w l pb lb pc lc) (hL : LaB l) (v : Int) :
  PureT Tryd.prog 35 [.agg (laCells l pb pc lb lc).toArray, vI v] w fun z N => z = vI (checkLV v l : Int) ∧ N = [] := by
 refine CallT.enter func35 rfl ntmps35 rfl ?_
 have hpl := hL.pre; have hll := hL.loop
 refine T.s (T.rg (TO.l rfl (l_box (v := (.agg (laCells l pb pc lb lc).toArray)) (cs := (laCells l pb pc lb lc)) rfl rfl (fun bx1 => ?_))))
 refine TO.l rfl (l_box (v := vI v) (cs := [(vI v)]) rfl rfl (fun bx2 => ?_))
 refine TO.qa rfl (TO.nl (T.s (T.block (T.s (T.rg (TO.q (q_lb 0 underlying3 rfl rfl rfl rfl) (TO.q (q_lss rfl rfl) ?_)))))))
 by_cases hs9 : v < 0
 ·refine TO.q (QT.toB (q_move rfl) (decide_eq_true hs9)) ?_
  refine TO.pd rfl rfl (TO.pd rfl rfl (TO.q (q_pick1 rfl rfl) (TO.qa rfl (TO.nl ?_))))
  refine T.cond1 rfl ?_
  refine T.s (T.rg (TO.qa rfl (TO.nl (T.ret (Res.drop ?_)))))
  refine Res.one (vI 7) Tryd.results35 rfl ?_
  refine ⟨[], Sub.of (List.nil_sublist _), congrArg (fun z : Nat => Value.int .i64 (z : Int)) (Eq.symm (a := checkLV v l) (b := 7) ?_), rfl⟩
  unfold checkLV; rw [if_pos (by omega)]
 refine TO.q (QT.toB (q_move rfl) (decide_eq_false hs9)) (TO.gq rfl rfl (q_lb 0 underlying3 rfl rfl rfl rfl) (TO.gq rfl rfl (q_gtr rfl rfl) (TO.q (q_pick0 rfl rfl) (TO.qa rfl (TO.nl (T.condP rfl (fun hc => ?_) (fun hc => ?_)))))))
 ·refine T.s ?_
  refine T.rg (TO.qa rfl (TO.nl (T.ret (Res.drop ?_))))
  refine Res.one (vI 7) Tryd.results35 rfl ?_
  refine ⟨[], Sub.of (List.nil_sublist _), congrArg (fun z : Nat => Value.int .i64 (z : Int)) (Eq.symm (a := checkLV v l) (b := 7) ?_), rfl⟩
  unfold checkLV; rw [if_pos (by omega)]
 refine T.s (T.rg (TO.q (q_fa underlying28 rfl inf26 rfl rfl) (TO.q (q_lb 1 underlying26 rfl rfl rfl rfl) (TO.q (q_len underlying26 rfl) (TO.q (q_eql rfl rfl) (TO.qa rfl (TO.nl (T.condP rfl (fun hc => ?_) (fun hc => ?_)))))))))
 ·have hlt13 : l.loop.length = 0 := by omega
  refine T.s (T.rg (TO.qa rfl (TO.nl (T.ret (Res.drop ?_)))))
  refine Res.one (vI 3) Tryd.results35 rfl ?_
  refine ⟨[], Sub.of (List.nil_sublist _), congrArg (fun z : Nat => Value.int .i64 (z : Int)) (Eq.symm (a := checkLV v l) (b := 3) ?_), rfl⟩
  unfold checkLV checkL; rw [if_neg (by omega), if_pos (by omega)]
 have hge13 : ¬ l.loop.length = 0 := by omega
 refine T.s (T.rg (TO.q (q_fa underlying28 rfl inf26 rfl rfl) (TO.q (q_lb 1 underlying26 rfl rfl rfl rfl) (TO.q (q_len underlying26 rfl) (TO.q (q_gtr rfl rfl) ?_)))))
 by_cases hs23 : (l.pre.length : Int) > 64
 ·refine TO.q (QT.toB (q_move rfl) (decide_eq_true hs23)) ?_
  refine TO.pd rfl rfl (TO.pd rfl rfl (TO.pd rfl rfl (TO.pd rfl rfl (TO.q (q_pick1 rfl rfl) (TO.qa rfl (TO.nl ?_))))))
  refine T.cond1 rfl ?_
  refine T.s (T.rg (TO.qa rfl (TO.nl (T.ret (Res.drop ?_)))))
  refine Res.one (vI 4) Tryd.results35 rfl ?_
  refine ⟨[], Sub.of (List.nil_sublist _), congrArg (fun z : Nat => Value.int .i64 (z : Int)) (Eq.symm (a := checkLV v l) (b := 4) ?_), rfl⟩
  unfold checkLV checkL; rw [if_neg (by omega), if_neg (by omega), if_pos (by omega)]
 refine TO.q (QT.toB (q_move rfl) (decide_eq_false hs23)) (TO.gq rfl rfl (q_fa underlying28 rfl inf26 rfl rfl) (TO.gq rfl rfl (q_lb 1 underlying26 rfl rfl rfl rfl) (TO.gq rfl rfl (q_len underlying26 rfl) (TO.gq rfl rfl (q_gtr rfl rfl) (TO.q (q_pick0 rfl rfl) (TO.qa rfl (TO.nl (T.condP rfl (fun hc => ?_) (fun hc => ?_)))))))))
 ·have hlt18 : l.loop.length > 64 := by omega
  refine T.s (T.rg (TO.qa rfl (TO.nl (T.ret (Res.drop ?_)))))
  refine Res.one (vI 4) Tryd.results35 rfl ?_
  refine ⟨[], Sub.of (List.nil_sublist _), congrArg (fun z : Nat => Value.int .i64 (z : Int)) (Eq.symm (a := checkLV v l) (b := 4) ?_), rfl⟩
  unfold checkLV checkL; rw [if_neg (by omega), if_neg (by omega), if_pos (by omega)]
 have hge18 : ¬ l.loop.length > 64 := by omega
 refine T.skip (T.s (T.rg (TO.q (q_makeFunc) (TO.qa rfl (TO.nl (T.s (T.s (T.rg (TO.q (q_fa underlying28 rfl inf26 rfl rfl) (TO.q (q_lb 1 underlying26 rfl rfl rfl rfl) (TO.qm rfl ?_)))))))))))
 by_cases hp : l.pre.any (fun x => decide (¬ x < 2 ^ v.toNat)) = true
 ·have hk33 := (containsFuncB w pb pc l.pre [oI bx2 3 [(vI v)], oI bx1 28 (laCells l pb pc lb lc)] (Sl.o h.pre) (by have := hL.pre; have := hL.loop; omega) (.func (.func 73) #[] #[.pointer (aD bx2)]) (fun x => decide (¬ x < 2 ^ v.toNat)) (fun x hx => (CallV.under (A := [oI bx2 3 [(vI v)]]) (B := [oI bx1 28 (laCells l pb pc lb lc)]) (CallV.of_fn (first := []) (args := [.int .u8 (x : Int)]) (caps := [.pointer (aD bx2)]) ent73 (tooGreat w v (by omega) (by omega) bx2 x (hL.p8 x hx))) (Sub.pick [0, 0] rfl)).mono (fun z O' ⟨A', e1, e2, e3⟩ => ⟨e2, by rw [e1, e3]; rfl⟩))).mono (fun z O' hh => (⟨hh.1.trans (congrArg Value.bool ((show ∀ b : Bool, b = decide (b = true) from fun b => by cases b <;> rfl) _)), hh.2⟩ : z = .bool (decide (l.pre.any (fun x => decide (¬ x < 2 ^ v.toNat)) = true)) ∧ O' = [oI bx2 3 [(vI v)], oI bx1 28 (laCells l pb pc lb lc)]))
  refine TO.l rfl (l_call ent74 hk33 rfl ?_)
  clear hk33
  rintro vr O' ⟨rfl, rfl⟩
  rw [decide_eq_true hp]
  refine TO.qm rfl (TO.pd rfl rfl (TO.pd rfl rfl (TO.pd rfl rfl (TO.pd rfl rfl (TO.q (q_pick1 rfl rfl) (TO.nl ?_))))))
  refine T.cond1 rfl ?_
  refine T.s (T.rg (TO.qa rfl (TO.nl (T.ret (Res.drop ?_)))))
  refine Res.one (vI 1) Tryd.results35 rfl ?_
  refine ⟨[], Sub.of (List.nil_sublist _), congrArg (fun z : Nat => Value.int .i64 (z : Int)) (Eq.symm (a := checkLV v l) (b := 1) ?_), rfl⟩
  unfold checkLV checkL; rw [if_neg (by omega), if_neg (by omega), if_neg (by omega), if_neg]
  rintro ⟨q1, q2⟩
  exact absurd hp (by rw [anyK_not q1]; decide)
 have hk33 := (containsFuncB w pb pc l.pre [oI bx2 3 [(vI v)], oI bx1 28 (laCells l pb pc lb lc)] (Sl.o h.pre) (by have := hL.pre; have := hL.loop; omega) (.func (.func 73) #[] #[.pointer (aD bx2)]) (fun x => decide (¬ x < 2 ^ v.toNat)) (fun x hx => (CallV.under (A := [oI bx2 3 [(vI v)]]) (B := [oI bx1 28 (laCells l pb pc lb lc)]) (CallV.of_fn (first := []) (args := [.int .u8 (x : Int)]) (caps := [.pointer (aD bx2)]) ent73 (tooGreat w v (by omega) (by omega) bx2 x (hL.p8 x hx))) (Sub.pick [0, 0] rfl)).mono (fun z O' ⟨A', e1, e2, e3⟩ => ⟨e2, by rw [e1, e3]; rfl⟩))).mono (fun z O' hh => (⟨hh.1.trans (congrArg Value.bool ((show ∀ b : Bool, b = decide (b = true) from fun b => by cases b <;> rfl) _)), hh.2⟩ : z = .bool (decide (l.pre.any (fun x => decide (¬ x < 2 ^ v.toNat)) = true)) ∧ O' = [oI bx2 3 [(vI v)], oI bx1 28 (laCells l pb pc lb lc)]))
 refine TO.l rfl (l_call ent74 hk33 rfl ?_)
 clear hk33
 rintro vr O' ⟨rfl, rfl⟩
 rw [decide_eq_false hp]
 refine TO.qm rfl (TO.gq rfl rfl (q_fa underlying28 rfl inf26 rfl rfl) (TO.gq rfl rfl (q_lb 1 underlying26 rfl rfl rfl rfl) (TO.gq rfl rfl (q_move rfl) ?_)))
 by_cases hq : l.loop.any (fun x => decide (¬ x < 2 ^ v.toNat)) = true
 ·have hk38 := (containsFuncB w lb lc l.loop [oI bx2 3 [(vI v)], oI bx1 28 (laCells l pb pc lb lc)] (Sl.o h.loop) (by have := hL.pre; have := hL.loop; omega) (.func (.func 73) #[] #[.pointer (aD bx2)]) (fun x => decide (¬ x < 2 ^ v.toNat)) (fun x hx => (CallV.under (A := [oI bx2 3 [(vI v)]]) (B := [oI bx1 28 (laCells l pb pc lb lc)]) (CallV.of_fn (first := []) (args := [.int .u8 (x : Int)]) (caps := [.pointer (aD bx2)]) ent73 (tooGreat w v (by omega) (by omega) bx2 x (hL.l8 x hx))) (Sub.pick [0, 0] rfl)).mono (fun z O' ⟨A', e1, e2, e3⟩ => ⟨e2, by rw [e1, e3]; rfl⟩))).mono (fun z O' hh => (⟨hh.1.trans (congrArg Value.bool ((show ∀ b : Bool, b = decide (b = true) from fun b => by cases b <;> rfl) _)), hh.2⟩ : z = .bool (decide (l.loop.any (fun x => decide (¬ x < 2 ^ v.toNat)) = true)) ∧ O' = [oI bx2 3 [(vI v)], oI bx1 28 (laCells l pb pc lb lc)]))
  refine TO.gd rfl rfl rfl (l_call ent74 hk38 rfl ?_)
  clear hk38
  rintro vr O' ⟨rfl, rfl⟩
  rw [decide_eq_true hq]
  refine TO.q (q_pick0 rfl rfl) (TO.nl ?_)
  refine T.cond1 rfl ?_
  refine T.s (T.rg (TO.qa rfl (TO.nl (T.ret (Res.drop ?_)))))
  refine Res.one (vI 1) Tryd.results35 rfl ?_
  refine ⟨[], Sub.of (List.nil_sublist _), congrArg (fun z : Nat => Value.int .i64 (z : Int)) (Eq.symm (a := checkLV v l) (b := 1) ?_), rfl⟩
  unfold checkLV checkL; rw [if_neg (by omega), if_neg (by omega), if_neg (by omega), if_neg]
  rintro ⟨q1, q2⟩
  exact absurd hq (by rw [anyK_not q2]; decide)
 have hk38 := (containsFuncB w lb lc l.loop [oI bx2 3 [(vI v)], oI bx1 28 (laCells l pb pc lb lc)] (Sl.o h.loop) (by have := hL.pre; have := hL.loop; omega) (.func (.func 73) #[] #[.pointer (aD bx2)]) (fun x => decide (¬ x < 2 ^ v.toNat)) (fun x hx => (CallV.under (A := [oI bx2 3 [(vI v)]]) (B := [oI bx1 28 (laCells l pb pc lb lc)]) (CallV.of_fn (first := []) (args := [.int .u8 (x : Int)]) (caps := [.pointer (aD bx2)]) ent73 (tooGreat w v (by omega) (by omega) bx2 x (hL.l8 x hx))) (Sub.pick [0, 0] rfl)).mono (fun z O' ⟨A', e1, e2, e3⟩ => ⟨e2, by rw [e1, e3]; rfl⟩))).mono (fun z O' hh => (⟨hh.1.trans (congrArg Value.bool ((show ∀ b : Bool, b = decide (b = true) from fun b => by cases b <;> rfl) _)), hh.2⟩ : z = .bool (decide (l.loop.any (fun x => decide (¬ x < 2 ^ v.toNat)) = true)) ∧ O' = [oI bx2 3 [(vI v)], oI bx1 28 (laCells l pb pc lb lc)]))
 refine TO.gd rfl rfl rfl (l_call ent74 hk38 rfl ?_)
 clear hk38
 rintro vr O' ⟨rfl, rfl⟩
 rw [decide_eq_false hq]
 refine TO.q (q_pick0 rfl rfl) (TO.nl (T.cond0 rfl (T.skip (T.s (T.rg (TO.qa rfl (TO.nl (T.ret (Res.drop ?_)))))))))
 refine Res.one (vI 0) Tryd.results35 rfl ?_
 refine ⟨[], Sub.of (List.nil_sublist _), congrArg (fun z : Nat => Value.int .i64 (z : Int)) (Eq.symm (a := checkLV v l) (b := 0) ?_), rfl⟩
 unfold checkLV checkL; rw [if_neg (by omega), if_neg (by omega), if_neg (by omega), if_pos ⟨allK_not (Bool.eq_false_iff.2 hp), allK_not (Bool.eq_false_iff.2 hq)⟩]
end Go.Proofs.YtnikhiohindggaaDoor


/- Contracts of functions of the program (Bol3, Bol4, Bol5, Bol6, DK, Bol7, CoreS, P1, P2, P3, Bol8, P4): what each call answers and that it leaves memory as it was. Conditions: those each theorem names. -/
import Derived.Test.YtdaapdamcekkgaaDoorBol2
import Derived.Test.YtdaapdamcekkgaaDoorCoreR
import Derived.Test.YtdaapdamcekkgaaDoorDec
set_option linter.unusedSectionVars false
set_option linter.unusedSimpArgs false
set_option linter.unusedVariables false
set_option linter.unnecessarySimpa false
namespace Go.Lx
open Go.RowKit
set_option linter.unusedVariables false
def WdV (v : Int) (w : List Nat) : Prop := ∀ x ∈ w, x < 2 ^ v.toNat
structure HasL (v : Int) (n : Nat) (d : DFA) (p : List Nat → Bool) : Prop where
  valid : Valid d
  len : d.next.length ≤ n
  vars : d.vars = v
  acc : ∀ w, WdV v w → acc d w = p w
theorem HasL.of {d : DFA} {n : Nat} (h : Valid d) (hl : d.next.length ≤ n) : HasL d.vars n d (Lx.acc d) := ⟨h, hl, rfl, fun _ _ => rfl⟩
theorem HasL.wd {v : Int} {n : Nat} {d : DFA} {p : List Nat → Bool} (h : HasL v n d p) {w : List Nat} : Wd d w ↔ WdV v w := by unfold Wd WdV letN; rw [h.vars]
structure MinL (v : Int) (n : Nat) (d : DFA) (p : List Nat → Bool) : Prop extends HasL v n d p where
  min : minD d = d
theorem HasL.op {f : Bool → Bool → Bool} {v : Int} {n m : Nat} {a b : DFA} {p q : List Nat → Bool} (ha : HasL v n a p) (hb : HasL v m b q) (h : n * m ≤ 4096) : MinL v (n * m) (opD f a b) (fun w => f (p w) (q w)) := by
  have hl : a.next.length * b.next.length ≤ n * m := Nat.mul_le_mul ha.len hb.len
  have hv : a.vars = b.vars := by rw [ha.vars, hb.vars]
  refine ⟨⟨opD_valid ha.valid hb.valid hv (by omega), Nat.le_trans (opD_len ha.valid hb.valid hv (by omega)) hl, ha.vars, fun w hw => ?_⟩, opD_min ha.valid hb.valid hv (by omega)⟩
  rw [opD_acc ha.valid hb.valid hv (by omega) (ha.wd.2 hw), ha.acc w hw, hb.acc w hw]
theorem HasL.minim {v : Int} {n : Nat} {d : DFA} {p : List Nat → Bool} (h : HasL v n d p) : MinL v n (minD d) p :=
  ⟨⟨minD_valid h.valid, Nat.le_trans (minD_len h.valid) h.len, h.vars, fun w hw => by rw [minD_acc h.valid (h.wd.2 hw)]; exact h.acc w hw⟩, minD_min h.valid⟩
theorem MinL.ext {v : Int} {n m : Nat} {a b : DFA} {p q : List Nat → Bool} (ha : MinL v n a p) (hb : MinL v m b q) (h : ∀ w, WdV v w → p w = q w) : a = b :=
  min_ext ha.valid hb.valid ha.min hb.min (by rw [ha.vars, hb.vars]) fun w hw => by rw [ha.acc w (ha.wd.1 hw), hb.acc w (ha.wd.1 hw), h w (ha.wd.1 hw)]
theorem MinL.ne {v : Int} {n m : Nat} {a b : DFA} {p q : List Nat → Bool} (ha : MinL v n a p) (hb : MinL v m b q) (h : a = b) : ∀ w, WdV v w → p w = q w := fun w hw => by
  rw [← ha.acc w hw, ← hb.acc w hw, h]
def andB (x y : Bool) : Bool := x && y
def orB (x y : Bool) : Bool := x || y
def xorB (x y : Bool) : Bool := x != y
def minusB (x y : Bool) : Bool := x && !y
def notB (x _y : Bool) : Bool := !x
def notD (d : DFA) : DFA := opD notB d d
theorem HasL.not {v : Int} {n : Nat} {d : DFA} {p : List Nat → Bool} (h : HasL v n d p) (hn : n * n ≤ 4096) : MinL v (n * n) (notD d) (fun w => !p w) := h.op h hn
theorem notD_flip {d : DFA} (h : Valid d) (hn : d.next.length * d.next.length ≤ 4096) : minD (flipD d) = notD d :=
  opD_of h h rfl hn (flip_valid h) rfl fun w hw => flip_acc h hw
theorem notD_len {d : DFA} (h : Valid d) (hn : d.next.length * d.next.length ≤ 4096) : (notD d).next.length ≤ d.next.length := by
  rw [← notD_flip h hn]; exact minD_len (flip_valid h)
theorem laws_all {v : Int} {n : Nat} {a b c : DFA} {p q r : List Nat → Bool} (ha : HasL v n a p) (hb : HasL v n b q) (hc : HasL v n c r) (hn : n ≤ 4) :
    notD (opD andB a b) = opD orB (notD a) (notD b) ∧ opD andB b a = opD andB a b ∧ notD (notD a) = minD a ∧
    opD andB a (opD orB b c) = opD orB (opD andB a b) (opD andB a c) ∧ opD xorB a b = opD orB (opD minusB a b) (opD minusB b a) ∧ opD orB (opD orB a b) c = opD orB a (opD orB b c) := by
  have h2 : n * n ≤ 16 := Nat.mul_le_mul hn hn
  have h4 : (n * n) * (n * n) ≤ 256 := Nat.mul_le_mul h2 h2
  have h3 : n * (n * n) ≤ 64 := Nat.mul_le_mul hn h2
  have h3' : (n * n) * n ≤ 64 := Nat.mul_le_mul h2 hn
  have L : n * n ≤ 4096 := by omega
  have L4 : (n * n) * (n * n) ≤ 4096 := by omega
  have L3 : n * (n * n) ≤ 4096 := by omega
  have L3' : (n * n) * n ≤ 4096 := by omega
  refine ⟨?_, ?_, ?_, ?_, ?_, ?_⟩
  · refine MinL.ext ((ha.op (f := andB) hb L).toHasL.not L4) ((ha.not L).toHasL.op (f := orB) (hb.not L).toHasL L4) fun w _ => ?_
    unfold andB orB; cases p w <;> cases q w <;> rfl
  · refine MinL.ext (hb.op (f := andB) ha L) (ha.op (f := andB) hb L) fun w _ => ?_
    unfold andB; cases p w <;> cases q w <;> rfl
  · refine MinL.ext ((ha.not L).toHasL.not L4) ha.minim fun w _ => ?_
    cases p w <;> rfl
  · refine MinL.ext (ha.op (f := andB) (hb.op (f := orB) hc L).toHasL L3) ((ha.op (f := andB) hb L).toHasL.op (f := orB) (ha.op (f := andB) hc L).toHasL L4) fun w _ => ?_
    unfold andB orB; cases p w <;> cases q w <;> cases r w <;> rfl
  · refine MinL.ext (ha.op (f := xorB) hb L) ((ha.op (f := minusB) hb L).toHasL.op (f := orB) (hb.op (f := minusB) ha L).toHasL L4) fun w _ => ?_
    unfold xorB orB minusB; cases p w <;> cases q w <;> rfl
  · refine MinL.ext ((ha.op (f := orB) hb L).toHasL.op (f := orB) hc L3') (ha.op (f := orB) (hb.op (f := orB) hc L).toHasL L3) fun w _ => ?_
    unfold orB; cases p w <;> cases q w <;> cases r w <;> rfl
end Go.Lx

namespace Go.Lx
open Go.RowKit
set_option linter.unusedVariables false
theorem stay_min {v : Int} (h0 : 0 ≤ v) (h6 : v ≤ 6) (f : Bool) : MinL v 1 (minD (stayD v f)) (fun _ => f) :=
  (show HasL v 1 (stayD v f) (fun _ => f) from ⟨stay_valid h0 h6 f, by show [_].length ≤ 1; simp, rfl, fun w hw => stay_acc h0 h6 f hw⟩).minim
theorem run_one {d : DFA} (hv : Valid d) (h1 : d.next.length = 1) {w : List Nat} (hw : Wd d w) : runN d d.start.toNat w = 0 := by
  have := runN_lt hv (start_lt hv) w hw; omega
theorem MinL.empty {v : Int} {n : Nat} {d : DFA} {p : List Nat → Bool} (h : MinL v n d p) : (d.next.length = 1 ∧ finN d 0 = false) ↔ ∀ w, WdV v w → p w = false := by
  constructor
  · rintro ⟨h1, h2⟩ w hw
    rw [← h.acc w hw]
    unfold acc; rw [run_one h.valid h1 (h.wd.2 hw), h2]
  · intro hp
    have h0 : 0 ≤ v := by rw [← h.vars]; exact h.valid.v0
    have h6 : v ≤ 6 := by rw [← h.vars]; exact h.valid.v6
    have he := MinL.ext h (stay_min h0 h6 false) fun w hw => hp w hw
    have hl : d.next.length = 1 := by
      have a1 := (stay_min h0 h6 false).len; rw [← he] at a1
      have a2 := h.valid.n0; omega
    refine ⟨hl, ?_⟩
    have h2 := h.acc [] (fun x hx => by cases hx)
    rw [hp [] (fun x hx => by cases hx)] at h2
    unfold acc at h2; rw [run_one h.valid hl (fun x hx => by cases hx)] at h2; exact h2
theorem LeastA.none_iff {v : Int} {n : Nat} {d : DFA} {p : List Nat → Bool} (h : HasL v n d p) {r : Option (List Nat)} (hr : LeastA d r) : r = none ↔ ∀ w, WdV v w → p w = false := by
  cases r with
  | none => exact ⟨fun _ w hw => by rw [← h.acc w hw]; exact hr w (h.wd.2 hw), fun _ => rfl⟩
  | some u =>
    refine ⟨fun h => (by cases h), fun hp => ?_⟩
    have h1 := hr.2.1
    rw [h.acc u (h.wd.1 hr.1), hp u (h.wd.1 hr.1)] at h1; cases h1
theorem incl_iff {v : Int} {n m : Nat} {a b : DFA} {p q : List Nat → Bool} (ha : HasL v n a p) (hb : HasL v m b q) (hn : n * m ≤ 4096) {r : Option (List Nat)} (hr : LeastA (opD minusB a b) r) :
    (r = none ↔ opD andB a b = minD a) ∧ (r = none ↔ (opD minusB a b).next.length = 1 ∧ finN (opD minusB a b) 0 = false) ∧ (r = none ↔ ∀ w, WdV v w → p w = true → q w = true) := by
  have hm := ha.op (f := minusB) hb hn
  have h1 := hr.none_iff hm.toHasL
  have h3 : (∀ w, WdV v w → minusB (p w) (q w) = false) ↔ ∀ w, WdV v w → p w = true → q w = true := by
    constructor
    · intro h w hw hp
      have := h w hw; unfold minusB at this; rw [hp] at this; simpa using this
    · intro h w hw
      unfold minusB
      cases hp : p w with
      | false => rfl
      | true => rw [h w hw hp]; rfl
  refine ⟨?_, h1.trans hm.empty.symm, h1.trans h3⟩
  rw [h1, h3]
  constructor
  · intro h
    refine MinL.ext (ha.op (f := andB) hb hn) ha.minim fun w hw => ?_
    unfold andB
    cases hp : p w with
    | false => rfl
    | true => rw [h w hw hp]; rfl
  · intro h w hw hp
    have := MinL.ne (ha.op (f := andB) hb hn) ha.minim h w hw
    unfold andB at this; rw [hp] at this; simpa using this
theorem same_iff {v : Int} {n m : Nat} {a b : DFA} {p q : List Nat → Bool} (ha : HasL v n a p) (hb : HasL v m b q) (hn : n * m ≤ 4096) :
    ((opD xorB a b).next.length = 1 ∧ finN (opD xorB a b) 0 = false) ↔ ∀ w, WdV v w → p w = q w := by
  rw [(ha.op (f := xorB) hb hn).empty]
  constructor
  · intro h w hw
    have := h w hw; unfold xorB at this
    cases hp : p w <;> cases hq : q w <;> simp_all
  · intro h w hw
    unfold xorB; rw [h w hw]; cases q w <;> rfl
end Go.Lx

namespace Go.Lx
open Go.RowKit
set_option linter.unusedVariables false
theorem pr_toN_lt {f : Bool → Bool → Bool} {a b : DFA} (ha : Valid a) (hb : Valid b) (hv : a.vars = b.vars) {o x : Nat} (ho : o < a.next.length * b.next.length) (hx : x < letN a) :
    toN (prodD f a b) o x = toN a (o / b.next.length) x * b.next.length + toN b (o % b.next.length) x ∧ toN (prodD f a b) o x < a.next.length * b.next.length := by
  obtain ⟨h1, h2⟩ := pr_split ho
  have h3 := prod_step (f := f) (a := a) (b := b) h1 h2 hx
  rw [Nat.div_add_mod'] at h3
  refine ⟨h3, ?_⟩
  rw [h3]
  exact pr_lt (ha.toN_lt h1 hx).1 (hb.toN_lt h2 (by rw [← hv]; exact hx)).1
theorem pr_bfs_ok {f : Bool → Bool → Bool} {a b : DFA} (ha : Valid a) (hb : Valid b) (hv : a.vars = b.vars) : ∀ i, (bfsN (prodD f a b) i).Nodup ∧ ∀ o ∈ bfsN (prodD f a b) i, o < a.next.length * b.next.length
  | 0 => by
    refine ⟨by simp [bfsN], fun o ho => ?_⟩
    simp only [bfsN, List.mem_singleton] at ho
    rw [ho, show (prodD f a b).start.toNat = a.start.toNat * b.next.length + b.start.toNat from Int.toNat_natCast _]
    exact pr_lt (start_lt ha) (start_lt hb)
  | i + 1 => by
    obtain ⟨h1, h2⟩ := pr_bfs_ok ha hb hv i
    rw [bfsN]
    split
    · rename_i hi
      refine foldl_add_ok _ _ h1 h2 (fun t ht => ?_)
      obtain ⟨x, hx, rfl⟩ := List.mem_map.1 ht
      refine (pr_toN_lt ha hb hv (h2 _ ?_) (List.mem_range.1 hx)).2
      rw [List.getD_eq_getElem?_getD, List.getElem?_eq_getElem hi]
      exact List.getElem_mem hi
    · exact ⟨h1, h2⟩
theorem pr_bfs_len {f : Bool → Bool → Bool} {a b : DFA} (ha : Valid a) (hb : Valid b) (hv : a.vars = b.vars) (i : Nat) : (bfsN (prodD f a b) i).length ≤ a.next.length * b.next.length := nodup_bound (pr_bfs_ok ha hb hv i).1 (pr_bfs_ok ha hb hv i).2
theorem pr_bfsM_ok {f : Bool → Bool → Bool} {a b : DFA} (ha : Valid a) (hb : Valid b) (hv : a.vars = b.vars) {i o x : Nat} (ho : o < a.next.length * b.next.length) (hx : x ≤ letN a) :
    (bfsM (prodD f a b) i o x).Nodup ∧ ∀ t ∈ bfsM (prodD f a b) i o x, t < a.next.length * b.next.length := by
  obtain ⟨h1, h2⟩ := pr_bfs_ok (f := f) ha hb hv i
  exact foldl_add_ok _ _ h1 h2 (fun t ht => by
    obtain ⟨y, hy, rfl⟩ := List.mem_map.1 ht
    exact (pr_toN_lt ha hb hv ho (by have := List.mem_range.1 hy; omega)).2)
theorem pr_bfsM_len {f : Bool → Bool → Bool} {a b : DFA} (ha : Valid a) (hb : Valid b) (hv : a.vars = b.vars) {i o x : Nat} (ho : o < a.next.length * b.next.length) (hx : x ≤ letN a) :
    (bfsM (prodD f a b) i o x).length ≤ a.next.length * b.next.length := nodup_bound (pr_bfsM_ok ha hb hv ho hx).1 (pr_bfsM_ok ha hb hv ho hx).2
theorem bfsM_full {d : DFA} {i o : Nat} (h : (bfsN d i)[i]? = some o) : bfsM d i o (2 ^ d.vars.toNat) = bfsN d (i + 1) := by rw [bfsN_succ h]; rfl
theorem bfsM_prefix {d : DFA} {i o x : Nat} (h : (bfsN d i)[i]? = some o) (hx : x ≤ 2 ^ d.vars.toNat) : bfsM d i o x <+: bfsN d (i + 1) := by
  rw [← bfsM_full h]
  unfold bfsM
  have h1 : List.range (2 ^ d.vars.toNat) = List.range x ++ (List.range (2 ^ d.vars.toNat)).drop x := by
    have h2 := List.take_append_drop x (List.range (2 ^ d.vars.toNat))
    rw [List.take_range, Nat.min_eq_left hx] at h2
    exact h2.symm
  rw [h1, List.map_append, List.foldl_append]
  exact foldl_prefix _ _
theorem ord_prefix {d : DFA} {i o x : Nat} (h : (bfsN d i)[i]? = some o) (hx : x ≤ 2 ^ d.vars.toNat) (hi : i + 1 ≤ d.next.length) : bfsM d i o x <+: order d :=
  (bfsM_prefix h hx).trans (bfsN_prefix d _ _ hi)
theorem visit_old {d : DFA} {i o x : Nat} (h : (bfsN d i)[i]? = some o) (hx : x ≤ 2 ^ d.vars.toNat) (hi : i + 1 ≤ d.next.length) {t : Nat} (ht : t ∈ bfsM d i o x) : ix t (bfsM d i o x) = ix t (order d) :=
  (ix_prefix (ord_prefix h hx hi) ht).symm
theorem visit_new {d : DFA} {i o x : Nat} (h : (bfsN d i)[i]? = some o) (hx : x < 2 ^ d.vars.toNat) (hi : i + 1 ≤ d.next.length) (ht : toN d o x ∉ bfsM d i o x) : (bfsM d i o x).length = ix (toN d o x) (order d) ∧ bfsM d i o (x + 1) = bfsM d i o x ++ [toN d o x] := by
  have h1 : bfsM d i o (x + 1) = bfsM d i o x ++ [toN d o x] := by rw [bfsM_step]; unfold add; rw [if_neg ht]
  have h2 := ord_prefix (x := x + 1) h hx hi
  refine ⟨?_, h1⟩
  rw [ix_prefix h2 (by rw [h1]; simp), h1, ix_append_right ht]
  simp [ix]
theorem visit_same {d : DFA} {i o x : Nat} (ht : toN d o x ∈ bfsM d i o x) : bfsM d i o (x + 1) = bfsM d i o x := by rw [bfsM_step]; unfold add; rw [if_pos ht]
end Go.Lx

namespace Go.Lx
open Go.RowKit
set_option linter.unusedVariables false
def Det (z a : DFA) : Prop := ∀ u u', WdV z.vars u → WdV z.vars u' → runN z z.start.toNat u = runN z z.start.toNat u' → runN a a.start.toNat u = runN a a.start.toNat u'
def Fac (z : DFA) (p : List Nat → Bool) : Prop := ∀ u u' w, WdV z.vars u → WdV z.vars u' → WdV z.vars w → runN z z.start.toNat u = runN z z.start.toNat u' → p (u ++ w) = p (u' ++ w)
theorem runN_append (d : DFA) (s : Nat) (u w : List Nat) : runN d s (u ++ w) = runN d (runN d s u) w := by simp [runN]
theorem WdV.append {v : Int} {u w : List Nat} (hu : WdV v u) (hw : WdV v w) : WdV v (u ++ w) := fun x hx => (List.mem_append.1 hx).elim (hu x) (hw x)
theorem wd_wdV {d : DFA} {w : List Nat} : Wd d w ↔ WdV d.vars w := Iff.rfl
theorem Det.refl (z : DFA) : Det z z := fun _ _ _ _ h => h
theorem Det.fac {z a : DFA} {n : Nat} {p : List Nat → Bool} (h : Det z a) (ha : HasL z.vars n a p) : Fac z p := fun u u' w hu hu' hw e => by
  rw [← ha.acc _ (hu.append hw), ← ha.acc _ (hu'.append hw)]
  unfold acc
  rw [runN_append, runN_append, h u u' hu hu' e]
theorem Fac.op {z : DFA} {p q : List Nat → Bool} (f : Bool → Bool → Bool) (hp : Fac z p) (hq : Fac z q) : Fac z (fun w => f (p w) (q w)) := fun u u' w hu hu' hw e => by
  show f _ _ = f _ _
  rw [hp u u' w hu hu' hw e, hq u u' w hu hu' hw e]
theorem Det.prodL {f : Bool → Bool → Bool} {a b : DFA} (ha : Valid a) (hb : Valid b) (hv : a.vars = b.vars) : Det (prodD f a b) a ∧ Det (prodD f a b) b := by
  have key : ∀ u u', Wd a u → Wd a u' → runN (prodD f a b) (prodD f a b).start.toNat u = runN (prodD f a b) (prodD f a b).start.toNat u' → runN a a.start.toNat u = runN a a.start.toNat u' ∧ runN b b.start.toNat u = runN b b.start.toNat u' := fun u u' hu hu' e => by
    have hs : (prodD f a b).start.toNat = a.start.toNat * b.next.length + b.start.toNat := Int.toNat_natCast _
    rw [hs, prod_run ha hb hv (start_lt ha) (start_lt hb) u hu, prod_run ha hb hv (start_lt ha) (start_lt hb) u' hu'] at e
    have hbu : Wd b u := fun x hx => by have := hu x hx; unfold letN at *; rw [← hv]; exact this
    have hbu' : Wd b u' := fun x hx => by have := hu' x hx; unfold letN at *; rw [← hv]; exact this
    have h1 := pr_div (s := runN a a.start.toNat u) (runN_lt hb (start_lt hb) u hbu)
    have h2 := pr_div (s := runN a a.start.toNat u') (runN_lt hb (start_lt hb) u' hbu')
    rw [← e] at h2
    exact ⟨h1.1.symm.trans h2.1, h1.2.symm.trans h2.2⟩
  exact ⟨fun u u' hu hu' e => (key u u' hu hu' e).1, fun u u' hu hu' e => (key u u' hu hu' e).2⟩
theorem Det.trans {z y a : DFA} (hv : z.vars = y.vars) (h : Det z y) (h2 : Det y a) : Det z a := fun u u' hu hu' e => h2 u u' (hv ▸ hu) (hv ▸ hu') (h u u' hu hu' e)
theorem Fac.det {z a : DFA} {n : Nat} {p : List Nat → Bool} (h : Fac z p) (ha : MinL z.vars n a p) : Det z a := fun u u' hu hu' e => by
  have hva := ha.valid
  have wu : Wd a u := ha.wd.2 hu
  have wu' : Wd a u' := ha.wd.2 hu'
  have hs := runN_lt hva (start_lt hva) u wu
  have ht := runN_lt hva (start_lt hva) u' wu'
  refine Classical.byContradiction fun hne => ?_
  have hT : Tell (minD a) (runN a a.start.toNat u) (runN a a.start.toNat u') none := fun w hw hd => by
    rw [ha.min] at hw hd
    refine hd ?_
    have hwv : WdV z.vars w := ha.wd.1 hw
    have := h u u' w hu hu' hwv e
    rw [← ha.acc _ (hu.append hwv), ← ha.acc _ (hu'.append hwv)] at this
    unfold acc at this
    rw [runN_append, runN_append] at this
    exact this
  have := (minD_apart hva (by rw [ha.min]; exact hs) (by rw [ha.min]; exact ht) hT).2 hne
  exact absurd this (by simp)
theorem order_fact {d z : DFA} (hd : Valid d) (hz : Valid z) (hv : z.vars = d.vars) (h : Det z d) : (order d).length ≤ z.next.length := by
  classical
  have hr : ∀ o ∈ order d, ∃ w, Wd d w ∧ runN d d.start.toNat w = o := fun o ho => bfsN_reach hd _ o ho
  let g : Nat → Nat := fun o => if hx : ∃ w, Wd d w ∧ runN d d.start.toNat w = o then runN z z.start.toNat (Classical.choose hx) else 0
  have hg : ∀ o ∈ order d, ∃ w, Wd d w ∧ runN d d.start.toNat w = o ∧ g o = runN z z.start.toNat w := fun o ho => by
    have hx := hr o ho
    refine ⟨Classical.choose hx, (Classical.choose_spec hx).1, (Classical.choose_spec hx).2, ?_⟩
    show (if hx : _ then _ else _) = _
    rw [dif_pos hx]
  have wz : ∀ w, Wd d w → WdV z.vars w := fun w hw => by rw [hv]; exact hw
  have hn : ((order d).map g).Nodup := map_nodup (bfsN_ok hd _).1 fun a ha b hb e => by
    obtain ⟨u, hu, rfl, e1⟩ := hg a ha
    obtain ⟨u', hu', rfl, e2⟩ := hg b hb
    exact h u u' (wz u hu) (wz u' hu') (by rw [← e1, ← e2, e])
  have := nodup_bound (n := z.next.length) hn fun x hx => by
    obtain ⟨o, ho, rfl⟩ := List.mem_map.1 hx
    obtain ⟨u, hu, _, e1⟩ := hg o ho
    rw [e1]
    exact runN_lt hz (start_lt hz) u (wz u hu)
  simpa using this
theorem pr_order_fact {f : Bool → Bool → Bool} {a b z : DFA} (ha : Valid a) (hb : Valid b) (hv : a.vars = b.vars) (hn : a.next.length * b.next.length ≤ 4096) (hz : Valid z) (hzv : z.vars = a.vars) (h1 : Det z a) (h2 : Det z b) : (order (prodD f a b)).length ≤ z.next.length := by
  refine order_fact (prod_valid ha hb hv hn) hz hzv fun u u' hu hu' e => ?_
  rw [show (prodD f a b).start.toNat = a.start.toNat * b.next.length + b.start.toNat from Int.toNat_natCast _,
    prod_run ha hb hv (start_lt ha) (start_lt hb) u (by rw [wd_wdV, ← hzv]; exact hu), prod_run ha hb hv (start_lt ha) (start_lt hb) u' (by rw [wd_wdV, ← hzv]; exact hu'), h1 u u' hu hu' e, h2 u u' hu hu' e]
theorem pr_order_le {f : Bool → Bool → Bool} {a b : DFA} (ha : Valid a) (hb : Valid b) (hv : a.vars = b.vars) : (order (prodD f a b)).length ≤ a.next.length * b.next.length := pr_bfs_len ha hb hv _
theorem laws_small {v : Int} {n : Nat} {a b c : DFA} {p q r : List Nat → Bool} (ha : HasL v n a p) (hb : HasL v n b q) (hc : HasL v n c r) (hn : n ≤ 4) :
    (order (prodD orB (opD andB a b) (opD andB a c))).length ≤ 64 ∧ (order (prodD orB (opD minusB a b) (opD minusB b a))).length ≤ 64 := by
  have h4 : n * n ≤ 4096 := Nat.le_trans (Nat.mul_le_mul hn hn) (by decide)
  have e1 : a.vars = b.vars := by rw [ha.vars, hb.vars]
  have l16 : a.next.length * b.next.length ≤ 16 := Nat.mul_le_mul (Nat.le_trans ha.len hn) (Nat.le_trans hb.len hn)
  have hy := prod_valid (f := andB) ha.valid hb.valid e1 (by omega)
  have yl := prod_len andB a b
  have e2 : (prodD andB a b).vars = c.vars := by show a.vars = c.vars; rw [ha.vars, hc.vars]
  have l64 : (prodD andB a b).next.length * c.next.length ≤ 64 := by rw [yl]; exact Nat.mul_le_mul l16 (Nat.le_trans hc.len hn)
  have hz := prod_valid (f := andB) hy hc.valid e2 (by omega)
  have zl := prod_len andB (prodD andB a b) c
  have hzv : (prodD andB (prodD andB a b) c).vars = v := ha.vars
  have dy := (Det.prodL (f := andB) hy hc.valid e2).1
  have dc := (Det.prodL (f := andB) hy hc.valid e2).2
  have da := Det.trans (z := prodD andB (prodD andB a b) c) (y := prodD andB a b) rfl dy (Det.prodL (f := andB) ha.valid hb.valid e1).1
  have db := Det.trans (z := prodD andB (prodD andB a b) c) (y := prodD andB a b) rfl dy (Det.prodL (f := andB) ha.valid hb.valid e1).2
  have fa : Fac (prodD andB (prodD andB a b) c) p := da.fac (by rw [hzv]; exact ha)
  have fb : Fac (prodD andB (prodD andB a b) c) q := db.fac (by rw [hzv]; exact hb)
  have fc : Fac (prodD andB (prodD andB a b) c) r := dc.fac (by rw [hzv]; exact hc)
  have go : ∀ {x y : DFA} {P Q : List Nat → Bool}, MinL v (n * n) x P → MinL v (n * n) y Q → Fac (prodD andB (prodD andB a b) c) P → Fac (prodD andB (prodD andB a b) c) Q → (order (prodD orB x y)).length ≤ 64 := fun {x y P Q} hx hyy hP hQ => by
    have hl : x.next.length * y.next.length ≤ 4096 := by
      have hn16 : n * n ≤ 16 := Nat.mul_le_mul hn hn
      exact Nat.le_trans (Nat.mul_le_mul (Nat.le_trans hx.len hn16) (Nat.le_trans hyy.len hn16)) (by decide)
    have := pr_order_fact (f := orB) hx.valid hyy.valid (by rw [hx.vars, hyy.vars]) hl hz (by rw [hzv, hx.vars]) (hP.det (by rw [hzv]; exact hx)) (hQ.det (by rw [hzv]; exact hyy))
    rw [zl] at this
    omega
  exact ⟨go (ha.op hb h4) (ha.op hc h4) (fa.op andB fb) (fa.op andB fc), go (ha.op hb h4) (hb.op ha h4) (fa.op minusB fb) (fb.op minusB fa)⟩
end Go.Lx

namespace Go.Lx
open Go.RowKit
set_option linter.unusedVariables false
def packI (φ : Prop) (L : List Item) : Item where
  blocks := L.flatMap Item.blocks
  P w := φ ∧ ∀ it ∈ L, it.P w
  loc w w' h := fun hp => ⟨hp.1, fun it hi => it.loc w w' (fun b hb => h b (List.mem_flatMap.2 ⟨it, hi, hb⟩)) (hp.2 it hi)⟩
theorem Inv.pack {base w : World} {φ : Prop} {L M : List Item} (hφ : φ) (h : Inv base (L ++ M) w) : Inv base (packI φ L :: M) w :=
  ⟨h.below, fun it hi => (List.mem_cons.1 hi).elim (fun e => e ▸ ⟨hφ, fun x hx => h.holds x (List.mem_append_left _ hx)⟩) fun hm => h.holds it (List.mem_append_right _ hm),
   fun it hi b hb => (List.mem_cons.1 hi).elim (fun e => by
      subst e
      obtain ⟨x, hx, hbx⟩ := List.mem_flatMap.1 hb
      exact h.fresh x (List.mem_append_left _ hx) b hbx) fun hm => h.fresh it (List.mem_append_right _ hm) b hb,
   by have := h.nodup; rwa [List.flatMap_append] at this⟩
theorem Inv.unpack {base w : World} {φ : Prop} {L M : List Item} (h : Inv base (packI φ L :: M) w) : φ ∧ Inv base (L ++ M) w := by
  have h0 := h.holds (packI φ L) List.mem_cons_self
  refine ⟨h0.1, h.below, fun it hi => (List.mem_append.1 hi).elim (h0.2 it) fun hm => h.holds it (List.mem_cons_of_mem _ hm), fun it hi b hb => (List.mem_append.1 hi).elim (fun hm => h.fresh (packI φ L) List.mem_cons_self b (List.mem_flatMap.2 ⟨it, hm, hb⟩)) fun hm => h.fresh it (List.mem_cons_of_mem _ hm) b hb, ?_⟩
  have := h.nodup
  rwa [List.flatMap_append]
section
variable {P : Program} {r : Option Nat} {base : World} {n : Nat} {c : Code} {Q : Post} {ρ : Env} {φ : Prop} {L M : List Item} {f : FuncId} {args : List Value}
theorem T.pack (hφ : φ) (h : T P r base n c Q ρ (packI φ L :: M)) : T P r base n c Q ρ (L ++ M) := fun a w N D hM ha hi =>
  h a w N D hM ha (by rw [List.append_assoc] at hi; exact Inv.pack hφ hi)
theorem T.unpack (h : φ → T P r base n c Q ρ (L ++ M)) : T P r base n c Q ρ (packI φ L :: M) := fun a w N D hM ha hi => by
  have hu := Inv.unpack (M := M ++ (mI D ++ N)) hi
  exact h hu.1 a w N D hM ha (by rw [List.append_assoc]; exact hu.2)
theorem CallT.packR {O : List Item} {R R' : Value → List Item → Prop} (h : CallT P base f args O R) (hr : ∀ v O', R v O' → ∃ φ L M, φ ∧ O' = L ++ M ∧ R' v (packI φ L :: M)) : CallT P base f args O R' := fun w N hI =>
  (h w N hI).mono fun _ _ ⟨v, O', h1, h2, h3⟩ => by
    obtain ⟨φ, L, M, hφ, rfl, hR⟩ := hr v O' h3
    exact ⟨v, packI φ L :: M, h1, Inv.pack (M := M ++ N) hφ (by rw [← List.append_assoc]; exact h2), hR⟩
theorem CallT.packO {R : Value → List Item → Prop} (h : φ → CallT P base f args (L ++ M) R) : CallT P base f args (packI φ L :: M) R := fun w N hI => by
  have hu := Inv.unpack (M := M ++ N) hI
  exact h hu.1 w N (by rw [List.append_assoc]; exact hu.2)
end
structure DK where
  nb : Option Addr
  nc : Nat
  fb : Option Addr
  fc : Nat
  qs : List Rec
abbrev dC (d : DFA) (k : DK) : List Value := dfaCells d k.nb k.nc k.fb k.fc
abbrev dV (d : DFA) (k : DK) : Value := .agg (dC d k).toArray
abbrev At (w : World) (d : DFA) (k : DK) : Prop := DfaAt w d k.nb (vals k.qs) k.fb
def dI (II Bo I : TypeId) (d : DFA) (k : DK) : Item := packI (nums k.qs = d.next) ([rowI k.nb k.nc II 1 (vals k.qs), rowI k.fb k.fc Bo 1 (bools d.final)] ++ itms I k.qs)
theorem Inv.at {base w : World} {O : List Item} {II Bo I : TypeId} {d : DFA} {k : DK} (hI : Inv base O w) (h : dI II Bo I d k ∈ O) : At w d k := by
  have h0 := hI.holds _ h
  have g : ∀ it ∈ [rowI k.nb k.nc II 1 (vals k.qs), rowI k.fb k.fc Bo 1 (bools d.final)] ++ itms I k.qs, it.P w := h0.2
  refine ⟨rowP.sl (g (rowI k.nb k.nc II 1 (vals k.qs)) (by simp)), ?_, rowP.sl (g (rowI k.fb k.fc Bo 1 (bools d.final)) (by simp))⟩
  rw [← h0.1]
  refine ⟨by simp, fun i x hx => ?_⟩
  rw [List.getElem?_map] at hx
  obtain ⟨q, hq, rfl⟩ := Option.map_eq_some_iff.1 hx
  refine ⟨q.b, q.c, by rw [List.getElem?_map, hq]; rfl, ?_⟩
  have : (Rec.itm I q).P w := g _ (List.mem_append_right _ (List.mem_map_of_mem (List.mem_of_getElem? hq)))
  exact rowP.sl this
theorem rows_rec {w : World} : ∀ {vs : List Value} {rs : List (List Int)}, RowsR w vs rs → ∃ qs : List Rec, vals qs = vs ∧ nums qs = rs
  | [], [], _ => ⟨[], rfl, rfl⟩
  | [], _ :: _, h => absurd h.1 (by simp)
  | _ :: _, [], h => absurd h.1 (by simp)
  | v :: vs, x :: rs, h => by
    obtain ⟨b, c, h1, h2⟩ := h.get (i := 0) (by simp)
    obtain ⟨qs, e1, e2⟩ := rows_rec (vs := vs) (rs := rs) ⟨by simpa using h.1, fun i y hy => by simpa using h.2 (i + 1) y (by simpa using hy)⟩
    refine ⟨⟨b, c, x⟩ :: qs, ?_, by simp [e2]⟩
    simp only [List.map_cons, e1, Rec.val]
    simp at h1
    rw [h1]
theorem DfaAt.dk {w : World} {d : DFA} {nb : Option Addr} {vs : List Value} {fb : Option Addr} (nc fc : Nat) (h : DfaAt w d nb vs fb) : ∃ k : DK, At w d k ∧ dfaCells d nb nc fb fc = dC d k := by
  obtain ⟨qs, rfl, e⟩ := rows_rec h.rows
  exact ⟨⟨nb, nc, fb, fc, qs⟩, h, rfl⟩
theorem CallT.dk {P : Program} {base : World} {f : FuncId} {args : List Value} {O : List Item} {II Bo I : TypeId} {D : DFA} {g : Value → Value} (h : CallT P base f args O fun v N => ∃ nb' nc' fb' fc' qs, v = g (.agg (dfaCells D nb' nc' fb' fc').toArray) ∧ N = [rowI nb' nc' II 1 (vals qs), rowI fb' fc' Bo 1 (bools D.final)] ++ itms I qs ∧ nums qs = D.next) :
    CallT P base f args O fun v N => ∃ k : DK, v = g (dV D k) ∧ N = [dI II Bo I D k] :=
  h.packR fun v O' hR => by
    obtain ⟨nb, nc, fb, fc, qs, rfl, rfl, hq⟩ := hR
    exact ⟨nums qs = D.next, _, [], hq, (List.append_nil _).symm, ⟨nb, nc, fb, fc, qs⟩, rfl, rfl⟩
theorem Inv.atB {base w : World} {O : List Item} {d : DFA} {k : DK} (hI : Inv base O w) (h : At base d k) : At w d k := hI.dfa h
end Go.Lx

namespace Go.Lx
open Go.RowKit
set_option linter.unusedVariables false
def noD : DFA := ⟨0, 0, [], []⟩
def wrongD (a b : DFA) : Nat := if checkD a ≠ 0 then checkD a else if checkD b ≠ 0 then checkD b else if a.vars ≠ b.vars then 7 else 0
def opV (f : Bool → Bool → Bool) (a b : DFA) : DFA := if wrongD a b = 0 then opD f a b else noD
theorem wrongD_zero {a b : DFA} : wrongD a b = 0 ↔ Valid a ∧ Valid b ∧ a.vars = b.vars := by
  unfold wrongD
  rw [← checkD_zero, ← checkD_zero]
  split
  · rename_i h; constructor
    · intro e; exact absurd e h
    · intro e; exact absurd e.1 h
  · rename_i h1; split
    · rename_i h; constructor
      · intro e; exact absurd e h
      · intro e; exact absurd e.2.1 h
    · rename_i h2; split
      · rename_i h; constructor
        · intro e; exact absurd e (by decide)
        · intro e; exact absurd e.2.2 h
      · rename_i h; constructor
        · intro _; exact ⟨by omega, by omega, Classical.not_not.1 h⟩
        · intro _; rfl
theorem wrong_first {a b : DFA} (h : checkD a ≠ 0) : wrongD a b = checkD a := by unfold wrongD; rw [if_pos h]
theorem wrong_second {a b : DFA} (h : checkD a = 0) (h2 : checkD b ≠ 0) : wrongD a b = checkD b := by unfold wrongD; rw [if_neg (by omega), if_pos h2]
theorem wrong_vars {a b : DFA} (h : checkD a = 0) (h2 : checkD b = 0) (h3 : a.vars ≠ b.vars) : wrongD a b = 7 := by unfold wrongD; rw [if_neg (by omega), if_neg (by omega), if_pos h3]
theorem opV_ok {f : Bool → Bool → Bool} {a b : DFA} (h : wrongD a b = 0) : opV f a b = opD f a b := by unfold opV; rw [if_pos h]
theorem opV_bad {f : Bool → Bool → Bool} {a b : DFA} (h : wrongD a b ≠ 0) : opV f a b = noD := by unfold opV; rw [if_neg h]
def un (n c : Nat) : Int × Int := (((c / n : Nat) : Int), ((c % n : Nat) : Int))
theorem un_inj {n c e : Nat} (h : un n c = un n e) : c = e := by
  unfold un at h
  simp only [Prod.mk.injEq] at h
  have h1 : c / n = e / n := by omega
  have h2 : c % n = e % n := by omega
  rw [← Nat.div_add_mod c n, ← Nat.div_add_mod e n, h1, h2]
abbrev unC (n c : Nat) : List Value := [.int .i64 ((c / n : Nat) : Int), .int .i64 ((c % n : Nat) : Int)]
def prs (n : Nat) (ks : List Nat) : List Value := ks.flatMap (unC n)
theorem prs_snoc (n : Nat) (ks : List Nat) (c : Nat) : prs n (ks ++ [c]) = prs n ks ++ unC n c := by simp [prs]
theorem prs_len (n : Nat) : ∀ ks : List Nat, (prs n ks).length = ks.length * 2
  | [] => rfl
  | c :: ks => by
    have := prs_len n ks
    simp only [prs, List.flatMap_cons, List.length_append, List.length_cons, List.length_nil] at this ⊢
    omega
theorem prs_get {n : Nat} : ∀ {ks : List Nat} {i c : Nat}, ks[i]? = some c → ∀ j (h : j < (unC n c).length), (prs n ks)[i * 2 + j]? = some (unC n c)[j]
  | [], i, c, h, _, _ => by simp at h
  | e :: ks, 0, c, h, j, hj => by
    simp only [List.getElem?_cons_zero, Option.some.injEq] at h
    subst h
    rw [Nat.zero_mul, Nat.zero_add, show prs n (e :: ks) = unC n e ++ prs n ks from rfl, List.getElem?_append_left hj]
    exact List.getElem?_eq_getElem hj
  | e :: ks, i + 1, c, h, j, hj => by
    rw [show prs n (e :: ks) = unC n e ++ prs n ks from rfl, List.getElem?_append_right (by show 2 ≤ _; omega), show (i + 1) * 2 + j - (unC n e).length = i * 2 + j by show (i + 1) * 2 + j - 2 = _; omega]
    exact prs_get (by simpa using h) j hj
abbrev pmap (n : Nat) (ks : List Nat) : List ((Int × Int) × Nat) := (ks.map (un n)).zipIdx
theorem un_mem {n c : Nat} {ks : List Nat} : un n c ∈ ks.map (un n) ↔ c ∈ ks := by
  constructor
  · intro h
    obtain ⟨e, he, h2⟩ := List.mem_map.1 h
    rw [← un_inj h2]; exact he
  · exact fun h => List.mem_map_of_mem h
theorem un_ix (n c : Nat) : ∀ ks : List Nat, ix (un n c) (ks.map (un n)) = ix c ks
  | [] => rfl
  | e :: ks => by
    simp only [List.map_cons, ix, un_ix n c ks]
    by_cases h : c = e
    · rw [h]; simp
    · rw [if_neg (fun h2 => h (un_inj h2)), if_neg h]
theorem pmap_snoc (n : Nat) (ks : List Nat) (c : Nat) : pmap n (ks ++ [c]) = pmap n ks ++ [(un n c, ks.length)] := by
  show ((ks ++ [c]).map (un n)).zipIdx = _
  rw [List.map_append, List.zipIdx_append]; simp
theorem pmap_fst (n : Nat) (ks : List Nat) : (pmap n ks).map Prod.fst = ks.map (un n) := zipIdx_fst _ 0
def rnR (d : DFA) (o : Nat) : List Int := (renRow d o).map fun x : Nat => (x : Int)
theorem renum_rows (d : DFA) : (renum d).next = (order d).map (rnR d) := renum_next d
theorem renum_fins (d : DFA) : (renum d).final = (order d).map (finN d) := rfl
theorem bfs_at {d : DFA} {i o : Nat} (h : (bfsN d i)[i]? = some o) (hi : i ≤ d.next.length) : (order d)[i]? = some o := by
  obtain ⟨hl, e⟩ := List.getElem?_eq_some_iff.1 h
  obtain ⟨r, hr⟩ := bfsN_prefix d i d.next.length hi
  show (bfsN d d.next.length)[i]? = _
  rw [← hr, List.getElem?_append_left hl]; exact h
theorem take_at {α : Type} {l : List α} {i : Nat} {o : α} (h : l[i]? = some o) : l.take (i + 1) = l.take i ++ [o] := by
  obtain ⟨hl, e⟩ := List.getElem?_eq_some_iff.1 h
  rw [List.take_succ_eq_append_getElem hl, e]
theorem pr_fin_at {f : Bool → Bool → Bool} {a b : DFA} {o : Nat} (ho : o < a.next.length * b.next.length) : finN (prodD f a b) o = f (finN a (o / b.next.length)) (finN b (o % b.next.length)) := by
  obtain ⟨h1, h2⟩ := pr_split ho
  have := prod_fin (f := f) h1 h2
  rwa [Nat.div_add_mod'] at this
theorem pr_stop {f : Bool → Bool → Bool} {a b : DFA} {N : Nat} (va : Valid a) (vb : Valid b) (hv : a.vars = b.vars) (h : (bfsN (prodD f a b) N).length = N) : order (prodD f a b) = bfsN (prodD f a b) N :=
  order_eq h (by have := pr_bfs_len (f := f) va vb hv N; rw [prod_len]; omega)
theorem itms_snoc (E : TypeId) (qs : List Rec) (r : Rec) : itms E (qs ++ [r]) = itms E qs ++ [r.itm E] := List.map_append
theorem Sub.fold (A : List Item) (x : Item) (B S S' : List Item) (h : S' = S ++ [x]) : Sub ((A ++ S') ++ B) ((A ++ (x :: B)) ++ S) := by
  subst h
  refine ⟨_, ?_, List.Sublist.refl _⟩
  have h1 : (A ++ (S ++ [x])) ++ B = A ++ (S ++ (x :: B)) := by simp
  have h2 : (A ++ (x :: B)) ++ S = A ++ ((x :: B) ++ S) := by simp
  rw [h1, h2]
  exact List.Perm.append_left A List.perm_append_comm
end Go.Lx

namespace Go.Lx
open Go.RowKit
theorem Res.cell2a {P : Program} {base : World} {ρ : Env} {O : List Item} {fn : Func} {R : Value → List Item → Prop} {a i c j : Nat} {T U E E' : TypeId} {d d' : TypeDesc} {z u : Value} {s by_ b b' : Nat} {cs cs' : List Value} {fr fr' : Nat × Nat} (hr : fn.results = #[.cell a T, .cell c U]) (hu : P.underlying T = some d) (ha : aggB d = true) (hi : Inf P T z s by_) (hu' : P.underlying U = some d') (ha' : aggB d' = false)
    (hp : ρ a = .pointer (some ⟨b, 0, none⟩)) (hp' : ρ c = .pointer (some ⟨b', 0, none⟩)) (hO : O[i]? = some (objI b (.cells cs.toArray E fr))) (hO' : O[j]? = some (objI b' (.cells (u :: cs').toArray E' fr'))) (hl : cs.length = s)
    (h : R (.tuple #[.agg cs.toArray, u]) O) : Res P base fn ρ O R :=
  ⟨⟨_, O, Sub.of (List.Sublist.refl _), h, fun w tmps hI ht => by
    have h1 := run_loadBox (P := P) hu ha hi hl (hI.objAt hO)
    have h2 := run_loadBox1 (P := P) hu' ha' (hI.objAt hO')
    have ht1 := ht a
    have ht2 := ht c
    simp only [Array.getD_eq_getD_getElem?] at ht1 ht2
    simp [results, hr, ht1, ht2, hp, hp', asAddr, h1, h2]⟩⟩
theorem q_nilCheck {P : Program} {base : World} {ρ : Env} {O : List Item} {dst : Option Nat} {t : TypeId} {p : String} {af : Array Edge} {g : Option (Nat × Bool)} {x : Operand} {a : Addr} (h : ev ρ x = .pointer (some a)) : QT P base ⟨dst, .nilCheck x, t, p, af, g⟩ ρ O (.pointer (some a)) := fun w _ => by simp [execOp, h]
end Go.Lx

namespace Go.Proofs.YtdaapdamcekkgaaDoor
open Go.Lx Go.RowKit
set_option linter.unusedVariables false
set_option linter.unusedSimpArgs false
theorem pairT : Pair2 Tryd.prog 86 { name := "s", type := 3, offset := 0, embedded := false, tag := "", pkgPath := "sentinel/boolean", byteOffset := 0 } { name := "t", type := 3, offset := 1, embedded := false, tag := "", pkgPath := "sentinel/boolean", byteOffset := 8 } := ⟨Tryd.underlying86, Tryd.underlying3, Tryd.underlying3, rfl, rfl, by decide, by decide, by kernel_rfl⟩
set_option maxHeartbeats 1000000 in
set_option maxRecDepth 20000 in
theorem beginBad (w : World) (a b : DFA) (j k : DK) (ha : At w a j) (hb : At w b k) (haa : a.next.length < 9223372036854775807) (haar : ∀ r ∈ a.next, r.length < 9223372036854775807) (haaf : a.final.length < 9223372036854775807) (hbb : b.next.length < 9223372036854775807) (hbbr : ∀ r ∈ b.next, r.length < 9223372036854775807) (hbbf : b.final.length < 9223372036854775807) (he : wrongD a b ≠ 0) :
    PureT Tryd.prog 69 [dV a j, dV b k] w fun v N => v = .tuple #[.pointer none, .int .i64 (wrongD a b : Int)] ∧ N = [] := by
  refine CallT.enter Tryd.func69 rfl Tryd.ntmps69 rfl ?_
  refine T.seq (T.region ?_)
  refine TO.loud rfl (l_box (v := (dV a j)) (cs := (dC a j)) rfl rfl (fun bx1 => ?_))
  refine TO.loud rfl (l_box (v := (dV b k)) (cs := (dC b k)) rfl rfl (fun bx2 => ?_))
  refine TO.quiet (q_assign rfl) (TO.quiet (q_assign rfl) ?_)
  refine TO.nil (T.seq (T.seq (T.region ?_)))
  refine TO.quiet (q_load_boxAgg 1 Tryd.underlying25 rfl inf25 rfl rfl rfl) ?_
  have hk10 := fun (w1 : World) (hI : Inv w [oI bx2 25 (dC b k), oI bx1 25 (dC a j)] w1) => subsetCheck w1 a j.nb j.fb j.nc j.fc (vals j.qs) (hI.dfa ha) haa haar haaf
  refine TO.loud rfl (l_call ent20 (CallT.of_pure hk10) rfl ?_)
  clear hk10
  rintro vr O' ⟨N, rfl, rfl, rfl⟩
  refine TO.quiet (q_assign rfl) ?_
  refine TO.nil (T.seq (T.region ?_))
  refine TO.quiet (q_move rfl) (TO.quiet (q_neq rfl rfl) ?_)
  refine TO.nil ?_
  refine T.condP rfl (fun hc => ?_) (fun hc => ?_)
  · have hlt12 : checkD a ≠ 0 := by omega
    refine T.seq (T.region ?_)
    refine TO.quiet (q_move rfl) (TO.quiet (q_assign rfl) (TO.quiet (q_assign rfl) ?_))
    refine TO.nil (T.ret (Res.drop ?_))
    refine Res.two (.pointer none) (.int .i64 (checkD a : Int)) Tryd.results69 rfl rfl ?_
    exact ⟨[], Sub.z, by rw [wrong_first (by omega)], rfl⟩
  have hge12 : ¬ checkD a ≠ 0 := by omega
  refine T.skip (T.seq (T.seq (T.region ?_)))
  refine TO.quiet (q_load_boxAgg 0 Tryd.underlying25 rfl inf25 rfl rfl rfl) ?_
  have hk15 := fun (w1 : World) (hI : Inv w [oI bx2 25 (dC b k), oI bx1 25 (dC a j)] w1) => subsetCheck w1 b k.nb k.fb k.nc k.fc (vals k.qs) (hI.dfa hb) hbb hbbr hbbf
  refine TO.loud rfl (l_call ent20 (CallT.of_pure hk15) rfl ?_)
  clear hk15
  rintro vr O' ⟨N, rfl, rfl, rfl⟩
  refine TO.quiet (q_assign rfl) ?_
  refine TO.nil (T.seq (T.region ?_))
  refine TO.quiet (q_move rfl) (TO.quiet (q_neq rfl rfl) ?_)
  refine TO.nil ?_
  refine T.condP rfl (fun hc => ?_) (fun hc => ?_)
  · have hlt17 : checkD b ≠ 0 := by omega
    refine T.seq (T.region ?_)
    refine TO.quiet (q_move rfl) (TO.quiet (q_assign rfl) (TO.quiet (q_assign rfl) ?_))
    refine TO.nil (T.ret (Res.drop ?_))
    refine Res.two (.pointer none) (.int .i64 (checkD b : Int)) Tryd.results69 rfl rfl ?_
    exact ⟨[], Sub.z, by rw [wrong_second (by omega) (by omega)], rfl⟩
  have hge17 : ¬ checkD b ≠ 0 := by omega
  refine T.skip (T.seq (T.seq (T.region ?_)))
  refine TO.quiet (q_fieldAddr Tryd.underlying25 rfl inf3 rfl rfl) (TO.quiet (q_load_box 1 Tryd.underlying3 rfl rfl rfl rfl) (TO.quiet (q_fieldAddr Tryd.underlying25 rfl inf3 rfl rfl) (TO.quiet (q_load_box 0 Tryd.underlying3 rfl rfl rfl rfl) ?_)))
  refine TO.quiet (q_neq rfl rfl) ?_
  refine TO.nil ?_
  refine T.condP (p := ¬ a.vars = b.vars) (congrArg Value.bool (decide_eq_decide.2 (by omega))) (fun hc => ?_) (fun hc => ?_)
  · refine T.seq ?_
    refine T.region ?_
    refine TO.quiet (q_assign rfl) (TO.quiet (q_assign rfl) ?_)
    refine TO.nil (T.ret (Res.drop ?_))
    refine Res.two (.pointer none) (.int .i64 7) Tryd.results69 rfl rfl ?_
    exact ⟨[], Sub.z, by rw [wrong_vars (by omega) (by omega) hc]; rfl, rfl⟩
  refine absurd (wrongD_zero.2 ⟨checkD_zero.1 (by omega), checkD_zero.1 (by omega), Classical.not_not.1 hc⟩) he
set_option maxHeartbeats 1000000 in
set_option maxRecDepth 20000 in
theorem beginOk (w : World) (a b : DFA) (j k : DK) (ha : At w a j) (hb : At w b k) (va : Valid a) (vb : Valid b) (hv : a.vars = b.vars) :
    PureT Tryd.prog 69 [dV a j, dV b k] w fun v N => ∃ (bp qb m : Nat), v = .tuple #[.pointer (some ⟨bp, 0, none⟩), .int .i64 0] ∧ N = [oI bp 90 [(.int .i64 a.vars), (.int .i64 a.start), (.slice j.nb a.next.length j.nc), (.slice j.fb a.final.length j.fc), (.int .i64 b.vars), (.int .i64 b.start), (.slice k.nb b.next.length k.nc), (.slice k.fb b.final.length k.fc), (.slice (some ⟨qb, 0, none⟩) ([a.start.toNat * b.next.length + b.start.toNat].length) 1), (.map (some m))], rowI (some ⟨qb, 0, none⟩) 1 86 2 (prs b.next.length [a.start.toNat * b.next.length + b.start.toNat]), mapI pairV (fun n : Nat => Value.int .i64 (n : Int)) m (pmap b.next.length [a.start.toNat * b.next.length + b.start.toNat])] := by
  refine CallT.enter Tryd.func69 rfl Tryd.ntmps69 rfl ?_
  have wa : checkD a = 0 := checkD_zero.2 va
  have wb : checkD b = 0 := checkD_zero.2 vb
  have hs1 : a.start = ((a.start.toNat : Nat) : Int) := by have := va.s0; omega
  have hs2 : b.start = ((b.start.toNat : Nat) : Int) := by have := vb.s0; omega
  have hpd := pr_div (s := a.start.toNat) (start_lt vb)
  refine T.seq (T.region ?_)
  refine TO.loud rfl (l_box (v := (dV a j)) (cs := (dC a j)) rfl rfl (fun bx1 => ?_))
  refine TO.loud rfl (l_box (v := (dV b k)) (cs := (dC b k)) rfl rfl (fun bx2 => ?_))
  refine TO.quiet (q_assign rfl) (TO.quiet (q_assign rfl) ?_)
  refine TO.nil (T.seq (T.seq (T.region ?_)))
  refine TO.quiet (q_load_boxAgg 1 Tryd.underlying25 rfl inf25 rfl rfl rfl) ?_
  have hk10 := fun (w1 : World) (hI : Inv w [oI bx2 25 (dC b k), oI bx1 25 (dC a j)] w1) => subsetCheck w1 a j.nb j.fb j.nc j.fc (vals j.qs) (hI.dfa ha) (by have := va.n4; omega) va.bound (by have := va.fin; have := va.n4; omega)
  refine TO.loud rfl (l_call ent20 (CallT.of_pure hk10) rfl ?_)
  clear hk10
  rintro vr O' ⟨N, rfl, rfl, rfl⟩
  rw [wa]
  refine TO.quiet (q_assign rfl) ?_
  refine TO.nil (T.seq (T.region ?_))
  refine TO.quiet (q_move rfl) (TO.quiet (q_neq rfl rfl) ?_)
  refine TO.nil ?_
  refine T.cond0 rfl ?_
  refine T.skip (T.seq (T.seq (T.region ?_)))
  refine TO.quiet (q_load_boxAgg 0 Tryd.underlying25 rfl inf25 rfl rfl rfl) ?_
  have hk15 := fun (w1 : World) (hI : Inv w [oI bx2 25 (dC b k), oI bx1 25 (dC a j)] w1) => subsetCheck w1 b k.nb k.fb k.nc k.fc (vals k.qs) (hI.dfa hb) (by have := vb.n4; omega) vb.bound (by have := vb.fin; have := vb.n4; omega)
  refine TO.loud rfl (l_call ent20 (CallT.of_pure hk15) rfl ?_)
  clear hk15
  rintro vr O' ⟨N, rfl, rfl, rfl⟩
  rw [wb]
  refine TO.quiet (q_assign rfl) ?_
  refine TO.nil (T.seq (T.region ?_))
  refine TO.quiet (q_move rfl) (TO.quiet (q_neq rfl rfl) ?_)
  refine TO.nil ?_
  refine T.cond0 rfl ?_
  refine T.skip (T.seq (T.seq (T.region ?_)))
  refine TO.quiet (q_fieldAddr Tryd.underlying25 rfl inf3 rfl rfl) (TO.quiet (q_load_box 1 Tryd.underlying3 rfl rfl rfl rfl) (TO.quiet (q_fieldAddr Tryd.underlying25 rfl inf3 rfl rfl) (TO.quiet (q_load_box 0 Tryd.underlying3 rfl rfl rfl rfl) ?_)))
  refine TO.quiet (q_neq rfl rfl) ?_
  refine TO.nil ?_
  refine T.cond0 (congrArg Value.bool (decide_eq_false (fun h => h hv))) ?_
  refine T.skip (T.seq (T.region ?_))
  refine TO.quiet (q_fieldAddr Tryd.underlying25 rfl inf3 rfl rfl) (TO.quiet (q_load_box 1 Tryd.underlying3 rfl rfl rfl rfl) (TO.quiet (q_fieldAddr Tryd.underlying25 rfl inf3 rfl rfl) (TO.quiet (q_load_box 0 Tryd.underlying3 rfl rfl rfl rfl) ?_)))
  refine TO.quiet (q_build (cs := [(.int .i64 a.start), (.int .i64 b.start)]) plan86 inf86 (by kernel_rfl)) ?_
  refine TO.loud rfl (l_alloc inf86 rfl (fun bx3 => ?_))
  refine TO.loud rfl (l_store_box (v := (.agg #[(.int .i64 a.start), (.int .i64 b.start)])) (vs := [(.int .i64 a.start), (.int .i64 b.start)]) 0 inf86 rfl rfl rfl rfl rfl rfl (by simp [putL]) ?_)
  refine TO.nil ?_
  refine T.cut (fun ρ O => ∃ (bp qb m : Nat), O = [oI bp 90 [(.int .i64 a.vars), (.int .i64 a.start), (.slice j.nb a.next.length j.nc), (.slice j.fb a.final.length j.fc), (.int .i64 b.vars), (.int .i64 b.start), (.slice k.nb b.next.length k.nc), (.slice k.fb b.final.length k.fc), (.slice (some ⟨qb, 0, none⟩) 1 1), (.map (some m))], rowI (some ⟨qb, 0, none⟩) 1 86 2 [(.int .i64 a.start), (.int .i64 b.start)], mapI pairV (fun n : Nat => Value.int .i64 (n : Int)) m [((a.start, b.start), (0 : Nat))]] ∧ Heads [(0, (dV a j)), (1, (dV b k)), (2, (.pointer (some ⟨bx1, 0, none⟩))), (3, (.pointer (some ⟨bx2, 0, none⟩))), (4, (.pointer (some ⟨bp, 0, none⟩))), (5, .int .i64 0), (6, .int .i64 ((0 : Nat) : Int)), (7, .int .i64 ((0 : Nat) : Int)), (8, (.pointer (some ⟨bx3, 0, none⟩)))] ρ) ?_ ?_
  · refine T.tree [oI bx3 86 [(.int .i64 a.start), (.int .i64 b.start)], oI bx2 25 (dC b k), oI bx1 25 (dC a j)] 12 mixed rfl (by exact Sub.rf) (fun _ _ _ h => h) ?_
    refine RO.quietT 0 rfl (by kernel_rfl) (q_load_boxAgg 2 Tryd.underlying25 rfl inf25 rfl rfl rfl) ?_
    refine RO.quietT 1 rfl (by kernel_rfl) (q_load_boxAgg 1 Tryd.underlying25 rfl inf25 rfl rfl rfl) ?_
    refine RO.quietT 2 rfl (by kernel_rfl) (q_load_boxAgg 0 Tryd.underlying86 rfl inf86 rfl rfl rfl) ?_
    refine RO.quietT 5 rfl (by kernel_rfl) (q_load_boxAgg 0 Tryd.underlying86 rfl inf86 rfl rfl rfl) ?_
    refine RO.fork [3, 4] (by kernel_rfl) rfl ⟨⟨_, rfl, rfl, l_buildSlice (m := 1) (parts := [(0, _)]) (cs := [(.int .i64 a.start), (.int .i64 b.start)]) Tryd.underlying87 inf86 (by decide) (by kernel_rfl) rfl (fun qb => ⟨by exact Sub.d (.k (.k (.k .z))), ?_⟩)⟩, ⟨_, rfl, rfl, l_makeMap pairV (fun n : Nat => Value.int .i64 (n : Int)) (fun m => ⟨by exact Sub.d (.k (.k (.k .z))), ?_⟩)⟩, trivial⟩
    · refine RO.fork [4] (by kernel_rfl) rfl ⟨⟨_, rfl, rfl, l_makeMap pairV (fun n : Nat => Value.int .i64 (n : Int)) (fun m => ⟨by exact Sub.d (.d (.k (.k (.k .z)))), ?_⟩)⟩, trivial⟩
      refine RO.fork [6] (by kernel_rfl) rfl ⟨⟨_, rfl, rfl, l_mapInsert (a := (a.start, b.start)) (v := (0 : Nat)) 0 Tryd.underlying88 (KeyOk.pair pairT) rfl rfl rfl rfl (by simp) ⟨by exact Sub.d (.d (.k (.k (.k .z)))), ?_⟩⟩, trivial⟩
      refine RO.quietT 7 rfl (by kernel_rfl) (q_move rfl) ?_
      refine RO.quietT 8 rfl (by kernel_rfl) (q_build (cs := [(.int .i64 a.vars), (.int .i64 a.start), (.slice j.nb a.next.length j.nc), (.slice j.fb a.final.length j.fc), (.int .i64 b.vars), (.int .i64 b.start), (.slice k.nb b.next.length k.nc), (.slice k.fb b.final.length k.fc), (.slice (some ⟨qb, 0, none⟩) 1 1), (.map (some m))]) plan90 inf90 (by kernel_rfl)) ?_
      refine RO.fork [9] (by kernel_rfl) rfl ⟨⟨_, rfl, rfl, l_box (v := (.agg #[(.int .i64 a.vars), (.int .i64 a.start), (.slice j.nb a.next.length j.nc), (.slice j.fb a.final.length j.fc), (.int .i64 b.vars), (.int .i64 b.start), (.slice k.nb b.next.length k.nc), (.slice k.fb b.final.length k.fc), (.slice (some ⟨qb, 0, none⟩) 1 1), (.map (some m))])) (cs := [(.int .i64 a.vars), (.int .i64 a.start), (.slice j.nb a.next.length j.nc), (.slice j.fb a.final.length j.fc), (.int .i64 b.vars), (.int .i64 b.start), (.slice k.nb b.next.length k.nc), (.slice k.fb b.final.length k.fc), (.slice (some ⟨qb, 0, none⟩) 1 1), (.map (some m))]) rfl rfl (fun bp => ⟨by exact Sub.d (.d (.d (.k (.k (.k .z))))), ?_⟩)⟩, trivial⟩
      refine RO.quietT 10 rfl (by kernel_rfl) (q_assign rfl) ?_
      refine RO.quietT 11 rfl (by kernel_rfl) (q_assign rfl) ?_
      exact RO.fin (by kernel_rfl) ⟨bp, qb, m, rfl, ⟨rfl, rfl, rfl, rfl, rfl, rfl, rfl, rfl, rfl, trivial⟩⟩ (by exact Sub.k (.pull [mapI pairV (fun n : Nat => Value.int .i64 (n : Int)) m [((a.start, b.start), (0 : Nat))]] _ (.k .z)))
    refine RO.fork [3, 6] (by kernel_rfl) rfl ⟨⟨_, rfl, rfl, l_buildSlice (m := 1) (parts := [(0, _)]) (cs := [(.int .i64 a.start), (.int .i64 b.start)]) Tryd.underlying87 inf86 (by decide) (by kernel_rfl) rfl (fun qb => ⟨by exact Sub.d (.d (.k (.k (.k .z)))), ?_⟩)⟩, ⟨_, rfl, rfl, l_mapInsert (a := (a.start, b.start)) (v := (0 : Nat)) 0 Tryd.underlying88 (KeyOk.pair pairT) rfl rfl rfl rfl (by simp) ⟨by exact Sub.d (.k (.k (.k .z))), ?_⟩⟩, trivial⟩
    · refine RO.fork [6] (by kernel_rfl) rfl ⟨⟨_, rfl, rfl, l_mapInsert (a := (a.start, b.start)) (v := (0 : Nat)) 1 Tryd.underlying88 (KeyOk.pair pairT) rfl rfl rfl rfl (by simp) ⟨by exact Sub.d (.d (.k (.k (.k .z)))), ?_⟩⟩, trivial⟩
      refine RO.quietT 7 rfl (by kernel_rfl) (q_move rfl) ?_
      refine RO.quietT 8 rfl (by kernel_rfl) (q_build (cs := [(.int .i64 a.vars), (.int .i64 a.start), (.slice j.nb a.next.length j.nc), (.slice j.fb a.final.length j.fc), (.int .i64 b.vars), (.int .i64 b.start), (.slice k.nb b.next.length k.nc), (.slice k.fb b.final.length k.fc), (.slice (some ⟨qb, 0, none⟩) 1 1), (.map (some m))]) plan90 inf90 (by kernel_rfl)) ?_
      refine RO.fork [9] (by kernel_rfl) rfl ⟨⟨_, rfl, rfl, l_box (v := (.agg #[(.int .i64 a.vars), (.int .i64 a.start), (.slice j.nb a.next.length j.nc), (.slice j.fb a.final.length j.fc), (.int .i64 b.vars), (.int .i64 b.start), (.slice k.nb b.next.length k.nc), (.slice k.fb b.final.length k.fc), (.slice (some ⟨qb, 0, none⟩) 1 1), (.map (some m))])) (cs := [(.int .i64 a.vars), (.int .i64 a.start), (.slice j.nb a.next.length j.nc), (.slice j.fb a.final.length j.fc), (.int .i64 b.vars), (.int .i64 b.start), (.slice k.nb b.next.length k.nc), (.slice k.fb b.final.length k.fc), (.slice (some ⟨qb, 0, none⟩) 1 1), (.map (some m))]) rfl rfl (fun bp => ⟨by exact Sub.d (.d (.d (.k (.k (.k .z))))), ?_⟩)⟩, trivial⟩
      refine RO.quietT 10 rfl (by kernel_rfl) (q_assign rfl) ?_
      refine RO.quietT 11 rfl (by kernel_rfl) (q_assign rfl) ?_
      exact RO.fin (by kernel_rfl) ⟨bp, qb, m, rfl, ⟨rfl, rfl, rfl, rfl, rfl, rfl, rfl, rfl, rfl, trivial⟩⟩ (by exact Sub.k (.k (.k .z)))
    refine RO.quietT 7 rfl (by kernel_rfl) (q_move rfl) ?_
    refine RO.fork [3] (by kernel_rfl) rfl ⟨⟨_, rfl, rfl, l_buildSlice (m := 1) (parts := [(0, _)]) (cs := [(.int .i64 a.start), (.int .i64 b.start)]) Tryd.underlying87 inf86 (by decide) (by kernel_rfl) rfl (fun qb => ⟨by exact Sub.d (.d (.k (.k (.k .z)))), ?_⟩)⟩, trivial⟩
    refine RO.quietT 8 rfl (by kernel_rfl) (q_build (cs := [(.int .i64 a.vars), (.int .i64 a.start), (.slice j.nb a.next.length j.nc), (.slice j.fb a.final.length j.fc), (.int .i64 b.vars), (.int .i64 b.start), (.slice k.nb b.next.length k.nc), (.slice k.fb b.final.length k.fc), (.slice (some ⟨qb, 0, none⟩) 1 1), (.map (some m))]) plan90 inf90 (by kernel_rfl)) ?_
    refine RO.fork [9] (by kernel_rfl) rfl ⟨⟨_, rfl, rfl, l_box (v := (.agg #[(.int .i64 a.vars), (.int .i64 a.start), (.slice j.nb a.next.length j.nc), (.slice j.fb a.final.length j.fc), (.int .i64 b.vars), (.int .i64 b.start), (.slice k.nb b.next.length k.nc), (.slice k.fb b.final.length k.fc), (.slice (some ⟨qb, 0, none⟩) 1 1), (.map (some m))])) (cs := [(.int .i64 a.vars), (.int .i64 a.start), (.slice j.nb a.next.length j.nc), (.slice j.fb a.final.length j.fc), (.int .i64 b.vars), (.int .i64 b.start), (.slice k.nb b.next.length k.nc), (.slice k.fb b.final.length k.fc), (.slice (some ⟨qb, 0, none⟩) 1 1), (.map (some m))]) rfl rfl (fun bp => ⟨by exact Sub.d (.d (.d (.k (.k (.k .z))))), ?_⟩)⟩, trivial⟩
    refine RO.quietT 10 rfl (by kernel_rfl) (q_assign rfl) ?_
    refine RO.quietT 11 rfl (by kernel_rfl) (q_assign rfl) ?_
    exact RO.fin (by kernel_rfl) ⟨bp, qb, m, rfl, ⟨rfl, rfl, rfl, rfl, rfl, rfl, rfl, rfl, rfl, trivial⟩⟩ (by exact Sub.k (.k (.k .z)))
  rintro ρ O ⟨bp, qb, m, rfl, hH⟩
  obtain ⟨ρ0, rfl⟩ := hH.elim
  clear hH
  refine T.ret (Res.drop ?_)
  refine Res.two (.pointer (some ⟨bp, 0, none⟩)) (.int .i64 0) Tryd.results69 rfl rfl ?_
  have e1 : prs b.next.length [a.start.toNat * b.next.length + b.start.toNat] = [.int .i64 a.start, .int .i64 b.start] := by
    simp only [prs, List.flatMap_cons, List.flatMap_nil, List.append_nil, unC, hpd.1, hpd.2, ← hs1, ← hs2]
  have e2 : pmap b.next.length [a.start.toNat * b.next.length + b.start.toNat] = [((a.start, b.start), 0)] := by
    show [(un _ _, 0)] = _
    simp only [un, hpd.1, hpd.2, ← hs1, ← hs2]
  exact ⟨[oI bp 90 [(.int .i64 a.vars), (.int .i64 a.start), (.slice j.nb a.next.length j.nc), (.slice j.fb a.final.length j.fc), (.int .i64 b.vars), (.int .i64 b.start), (.slice k.nb b.next.length k.nc), (.slice k.fb b.final.length k.fc), (.slice (some ⟨qb, 0, none⟩) 1 1), (.map (some m))], rowI (some ⟨qb, 0, none⟩) 1 86 2 [(.int .i64 a.start), (.int .i64 b.start)], mapI pairV (fun n : Nat => Value.int .i64 (n : Int)) m [((a.start, b.start), (0 : Nat))]], (by exact Sub.rf), bp, qb, m, rfl, by rw [e1, e2]; rfl⟩
set_option maxHeartbeats 1000000 in
set_option maxRecDepth 20000 in
theorem pairsF (w : World) (bp : Nat) : PureT Tryd.prog 70 [.pointer (some ⟨bp, 0, none⟩)] w fun v N => ∃ b, v = .func (.func 87) #[] #[.pointer (some ⟨b, 0, none⟩)] ∧ N = [oI b 79 [(.pointer (some ⟨bp, 0, none⟩))]] := by
  refine CallT.enter Tryd.func70 rfl Tryd.ntmps70 rfl ?_
  refine T.seq (T.region ?_)
  refine TO.loud rfl (l_box (v := (.pointer (some ⟨bp, 0, none⟩))) (cs := [(.pointer (some ⟨bp, 0, none⟩))]) rfl rfl (fun bx1 => ?_))
  refine TO.quiet (q_assign rfl) ?_
  refine TO.nil (T.seq (T.region ?_))
  refine TO.quiet (q_makeFunc) (TO.quiet (q_assign rfl) ?_)
  refine TO.nil (T.ret ?_)
  refine Res.one (.func (.func 87) #[] #[(.pointer (some ⟨bx1, 0, none⟩))]) Tryd.results70 rfl ?_
  exact ⟨bx1, rfl, rfl⟩
set_option maxHeartbeats 1000000 in
set_option maxRecDepth 20000 in
theorem pvHit (base : World) (a b : DFA) (j k : DK) (bp m : Nat) (ks : List Nat) (c : Nat) (qb : Option Addr) (qc : Nat) (hk : c ∈ ks) (hl : ks.length ≤ 17000000) :
    CallT Tryd.prog base 88 [.pointer (some ⟨bp, 0, none⟩), (.agg #[.int .i64 ((c / b.next.length : Nat) : Int), .int .i64 ((c % b.next.length : Nat) : Int)])] [oI bp 90 [(.int .i64 a.vars), (.int .i64 a.start), (.slice j.nb a.next.length j.nc), (.slice j.fb a.final.length j.fc), (.int .i64 b.vars), (.int .i64 b.start), (.slice k.nb b.next.length k.nc), (.slice k.fb b.final.length k.fc), (.slice qb ks.length qc), (.map (some m))], rowI qb qc 86 2 (prs b.next.length ks), mapI pairV (fun n : Nat => Value.int .i64 (n : Int)) m (pmap b.next.length ks)] (fun v O' => v = .int .i64 ((ix c (add ks c) : Nat) : Int) ∧ ∃ qb' qc', O' = [oI bp 90 [(.int .i64 a.vars), (.int .i64 a.start), (.slice j.nb a.next.length j.nc), (.slice j.fb a.final.length j.fc), (.int .i64 b.vars), (.int .i64 b.start), (.slice k.nb b.next.length k.nc), (.slice k.fb b.final.length k.fc), (.slice qb' ((add ks c).length) qc'), (.map (some m))], rowI qb' qc' 86 2 (prs b.next.length (add ks c)), mapI pairV (fun n : Nat => Value.int .i64 (n : Int)) m (pmap b.next.length (add ks c))]) := by
  refine CallT.enter Tryd.func88 rfl Tryd.ntmps88 rfl ?_
  refine T.seq (T.region ?_)
  refine TO.loud rfl (l_box (v := (.agg #[.int .i64 ((c / b.next.length : Nat) : Int), .int .i64 ((c % b.next.length : Nat) : Int)])) (cs := [.int .i64 ((c / b.next.length : Nat) : Int), .int .i64 ((c % b.next.length : Nat) : Int)]) rfl rfl (fun bx1 => ?_))
  refine TO.quiet (q_assign rfl) ?_
  refine TO.nil (T.seq ?_)
  refine T.draws [oI bx1 86 [.int .i64 ((c / b.next.length : Nat) : Int), .int .i64 ((c % b.next.length : Nat) : Int)], oI bp 90 [(.int .i64 a.vars), (.int .i64 a.start), (.slice j.nb a.next.length j.nc), (.slice j.fb a.final.length j.fc), (.int .i64 b.vars), (.int .i64 b.start), (.slice k.nb b.next.length k.nc), (.slice k.fb b.final.length k.fc), (.slice qb ks.length qc), (.map (some m))], rowI qb qc 86 2 (prs b.next.length ks), mapI pairV (fun n : Nat => Value.int .i64 (n : Int)) m (pmap b.next.length ks)] [(0, 0), (1, 0), (2, 0), (3, 0), (4, 0), (5, 0), (6, 0), (7, 0), (8, 0), (9, 0), (10, 0)] mixed (by kernel_rfl) (by exact Sub.rf) (fun _ _ _ h => h) ?_
  refine DO.quiet rfl (q_move rfl) (DO.quiet rfl (q_nilCheck rfl) (DO.quiet rfl (q_fieldAddr Tryd.underlying90 rfl inf88 rfl rfl) (DO.quiet rfl (q_load_box 1 Tryd.underlying88 rfl rfl rfl rfl) ?_)))
  refine DO.quiet rfl (q_load_boxAgg 0 Tryd.underlying86 rfl inf86 rfl rfl rfl) (DO.quiet rfl (QT.cast (q_lookupOk (a := un b.next.length c) Tryd.underlying88 inf3 (KeyOk.pair pairT) rfl rfl (List.mem_of_getElem? (i := 3) rfl)) (v' := (.tuple #[.int .i64 ((ix c ks : Nat) : Int), .bool true])) (by rw [look_zip]; simp only [un_mem, hk, if_true, if_false, un_ix, Nat.zero_add]; rfl)) (DO.quiet rfl (q_move rfl) (DO.quiet rfl (q_extract (vs := _) rfl rfl) ?_)))
  refine DO.quiet rfl (q_extract (vs := _) rfl rfl) (DO.quiet rfl (q_assign rfl) (DO.quiet rfl (q_assign rfl) ?_))
  refine DO.done ?_
  refine T.seq (T.seq (T.region ?_))
  refine TO.quiet (q_move rfl) (TO.quiet (q_not rfl) ?_)
  refine TO.nil ?_
  refine T.cond0 rfl ?_
  refine T.skip (T.seq (T.region ?_))
  refine TO.quiet (q_move rfl) (TO.quiet (q_assign rfl) ?_)
  refine TO.nil (T.ret (Res.drop ?_))
  refine Res.one (.int .i64 ((ix c ks : Nat) : Int)) Tryd.results88 rfl ?_
  have ha : add ks c = ks := if_pos hk
  rw [ha]
  exact ⟨[oI bp 90 [(.int .i64 a.vars), (.int .i64 a.start), (.slice j.nb a.next.length j.nc), (.slice j.fb a.final.length j.fc), (.int .i64 b.vars), (.int .i64 b.start), (.slice k.nb b.next.length k.nc), (.slice k.fb b.final.length k.fc), (.slice qb ks.length qc), (.map (some m))], rowI qb qc 86 2 (prs b.next.length ks), mapI pairV (fun n : Nat => Value.int .i64 (n : Int)) m (pmap b.next.length ks)], (by exact Sub.d (.k (.k (.k .z)))), rfl, qb, qc, rfl⟩
set_option maxHeartbeats 1000000 in
set_option maxRecDepth 20000 in
theorem pvNew (base : World) (a b : DFA) (j k : DK) (bp m : Nat) (ks : List Nat) (c : Nat) (qb : Option Addr) (qc : Nat) (hk : c ∉ ks) (hl : ks.length ≤ 17000000) :
    CallT Tryd.prog base 88 [.pointer (some ⟨bp, 0, none⟩), (.agg #[.int .i64 ((c / b.next.length : Nat) : Int), .int .i64 ((c % b.next.length : Nat) : Int)])] [oI bp 90 [(.int .i64 a.vars), (.int .i64 a.start), (.slice j.nb a.next.length j.nc), (.slice j.fb a.final.length j.fc), (.int .i64 b.vars), (.int .i64 b.start), (.slice k.nb b.next.length k.nc), (.slice k.fb b.final.length k.fc), (.slice qb ks.length qc), (.map (some m))], rowI qb qc 86 2 (prs b.next.length ks), mapI pairV (fun n : Nat => Value.int .i64 (n : Int)) m (pmap b.next.length ks)] (fun v O' => v = .int .i64 ((ix c (add ks c) : Nat) : Int) ∧ ∃ qb' qc', O' = [oI bp 90 [(.int .i64 a.vars), (.int .i64 a.start), (.slice j.nb a.next.length j.nc), (.slice j.fb a.final.length j.fc), (.int .i64 b.vars), (.int .i64 b.start), (.slice k.nb b.next.length k.nc), (.slice k.fb b.final.length k.fc), (.slice qb' ((add ks c).length) qc'), (.map (some m))], rowI qb' qc' 86 2 (prs b.next.length (add ks c)), mapI pairV (fun n : Nat => Value.int .i64 (n : Int)) m (pmap b.next.length (add ks c))]) := by
  refine CallT.enter Tryd.func88 rfl Tryd.ntmps88 rfl ?_
  refine T.seq (T.region ?_)
  refine TO.loud rfl (l_box (v := (.agg #[.int .i64 ((c / b.next.length : Nat) : Int), .int .i64 ((c % b.next.length : Nat) : Int)])) (cs := [.int .i64 ((c / b.next.length : Nat) : Int), .int .i64 ((c % b.next.length : Nat) : Int)]) rfl rfl (fun bx1 => ?_))
  refine TO.quiet (q_assign rfl) ?_
  refine TO.nil (T.seq ?_)
  refine T.draws [oI bx1 86 [.int .i64 ((c / b.next.length : Nat) : Int), .int .i64 ((c % b.next.length : Nat) : Int)], oI bp 90 [(.int .i64 a.vars), (.int .i64 a.start), (.slice j.nb a.next.length j.nc), (.slice j.fb a.final.length j.fc), (.int .i64 b.vars), (.int .i64 b.start), (.slice k.nb b.next.length k.nc), (.slice k.fb b.final.length k.fc), (.slice qb ks.length qc), (.map (some m))], rowI qb qc 86 2 (prs b.next.length ks), mapI pairV (fun n : Nat => Value.int .i64 (n : Int)) m (pmap b.next.length ks)] [(0, 0), (1, 0), (2, 0), (3, 0), (4, 0), (5, 0), (6, 0), (7, 0), (8, 0), (9, 0), (10, 0)] mixed (by kernel_rfl) (by exact Sub.rf) (fun _ _ _ h => h) ?_
  refine DO.quiet rfl (q_move rfl) (DO.quiet rfl (q_nilCheck rfl) (DO.quiet rfl (q_fieldAddr Tryd.underlying90 rfl inf88 rfl rfl) (DO.quiet rfl (q_load_box 1 Tryd.underlying88 rfl rfl rfl rfl) ?_)))
  refine DO.quiet rfl (q_load_boxAgg 0 Tryd.underlying86 rfl inf86 rfl rfl rfl) (DO.quiet rfl (QT.cast (q_lookupOk (a := un b.next.length c) Tryd.underlying88 inf3 (KeyOk.pair pairT) rfl rfl (List.mem_of_getElem? (i := 3) rfl)) (v' := (.tuple #[.int .i64 0, .bool false])) (by rw [look_zip]; simp only [un_mem, hk, if_true, if_false, un_ix, Nat.zero_add]; rfl)) (DO.quiet rfl (q_move rfl) (DO.quiet rfl (q_extract (vs := _) rfl rfl) ?_)))
  refine DO.quiet rfl (q_extract (vs := _) rfl rfl) (DO.quiet rfl (q_assign rfl) (DO.quiet rfl (q_assign rfl) ?_))
  refine DO.done ?_
  refine T.seq (T.seq (T.region ?_))
  refine TO.quiet (q_move rfl) (TO.quiet (q_not rfl) ?_)
  refine TO.nil ?_
  refine T.cond1 rfl ?_
  refine T.seq (T.region ?_)
  refine TO.quiet (q_move rfl) (TO.quiet (q_nilCheck rfl) (TO.quiet (q_fieldAddr Tryd.underlying90 rfl inf87 rfl rfl) (TO.quiet (q_load_box 1 Tryd.underlying87 rfl rfl rfl rfl) ?_)))
  refine TO.quiet (q_len Tryd.underlying87 rfl) (TO.quiet (q_assign rfl) ?_)
  refine TO.nil (T.seq ?_)
  refine T.draws [oI bx1 86 [.int .i64 ((c / b.next.length : Nat) : Int), .int .i64 ((c % b.next.length : Nat) : Int)], oI bp 90 [(.int .i64 a.vars), (.int .i64 a.start), (.slice j.nb a.next.length j.nc), (.slice j.fb a.final.length j.fc), (.int .i64 b.vars), (.int .i64 b.start), (.slice k.nb b.next.length k.nc), (.slice k.fb b.final.length k.fc), (.slice qb ks.length qc), (.map (some m))], rowI qb qc 86 2 (prs b.next.length ks), mapI pairV (fun n : Nat => Value.int .i64 (n : Int)) m (pmap b.next.length ks)] [(0, 0), (1, 0), (2, 0), (3, 0), (4, 0), (5, 0), (6, 2)] mixed (by kernel_rfl) (by exact Sub.rf) (fun _ _ _ h => h) ?_
  refine DO.quiet rfl (q_move rfl) (DO.quiet rfl (q_nilCheck rfl) (DO.quiet rfl (q_fieldAddr Tryd.underlying90 rfl inf88 rfl rfl) (DO.quiet rfl (q_load_box 1 Tryd.underlying88 rfl rfl rfl rfl) ?_)))
  refine DO.quiet rfl (q_load_boxAgg 0 Tryd.underlying86 rfl inf86 rfl rfl rfl) (DO.quiet rfl (q_move rfl) ?_)
  refine DO.last rfl rfl (l_mapPut (a := un b.next.length c) (v := ks.length) 3 Tryd.underlying88 (KeyOk.pair pairT) rfl rfl rfl rfl (by rw [pmap_fst, un_mem]; exact hk) ?_)
  refine DO.done ?_
  refine T.draws [oI bx1 86 [.int .i64 ((c / b.next.length : Nat) : Int), .int .i64 ((c % b.next.length : Nat) : Int)], oI bp 90 [(.int .i64 a.vars), (.int .i64 a.start), (.slice j.nb a.next.length j.nc), (.slice j.fb a.final.length j.fc), (.int .i64 b.vars), (.int .i64 b.start), (.slice k.nb b.next.length k.nc), (.slice k.fb b.final.length k.fc), (.slice qb ks.length qc), (.map (some m))], mapI pairV (fun n : Nat => Value.int .i64 (n : Int)) m ((pmap b.next.length ks) ++ [(un b.next.length c, ks.length)])] [(0, 0), (1, 0), (2, 0), (3, 0), (4, 0), (5, 0), (6, 1), (7, 1), (8, 0), (9, 0), (10, 2)] mixed (by kernel_rfl) (by exact Sub.k (.k (.d (.k .z)))) (fun _ _ _ h => h) ?_
  refine DO.quiet rfl (q_move rfl) (DO.quiet rfl (q_move rfl) (DO.quiet rfl (q_nilCheck rfl) (DO.quiet rfl (q_fieldAddr Tryd.underlying90 rfl inf87 rfl rfl) ?_)))
  refine DO.quiet rfl (q_load_box 1 Tryd.underlying87 rfl rfl rfl rfl) (DO.quiet rfl (q_load_boxAgg 0 Tryd.underlying86 rfl inf86 rfl rfl rfl) ?_)
  refine DO.loud rfl rfl (l_buildSlice (m := 1) (parts := [(0, _)]) (cs := [.int .i64 ((c / b.next.length : Nat) : Int), .int .i64 ((c % b.next.length : Nat) : Int)]) Tryd.underlying87 inf86 (by decide) (by kernel_rfl) rfl (fun bx2 => ⟨by exact Sub.d (.k (.k (.d (.k .z)))), ?_⟩))
  refine DO.loud rfl rfl (l_append 3 Tryd.underlying87 Tryd.underlying87 inf86 rfl rfl rfl rfl (by rw [prs_len]) (by decide) (Src.row (j := 0) rfl (by simp)) (by simp [oneB]) (by omega) (by decide) (by decide) (fun bx3 c4 => ⟨by exact Sub.d (.k (.k (.d (.k .z)))), ?_⟩))
  refine DO.quiet rfl (q_nilCheck rfl) (DO.quiet rfl (q_fieldAddr Tryd.underlying90 rfl inf87 rfl rfl) ?_)
  refine DO.last rfl rfl (l_store_box (v := (.slice bx3 (ks.length + 1) c4)) (vs := [(.slice bx3 (ks.length + 1) c4)]) 2 inf87 rfl rfl rfl rfl rfl rfl (by simp [putL]) ?_)
  refine DO.done ?_
  refine T.seq (T.region ?_)
  refine TO.quiet (q_move rfl) (TO.quiet (q_assign rfl) ?_)
  refine TO.nil (T.ret (Res.drop ?_))
  refine Res.one (.int .i64 (ks.length : Int)) Tryd.results88 rfl ?_
  have ha : add ks c = ks ++ [c] := if_neg hk
  rw [ha]
  exact ⟨[oI bp 90 [(.int .i64 a.vars), (.int .i64 a.start), (.slice j.nb a.next.length j.nc), (.slice j.fb a.final.length j.fc), (.int .i64 b.vars), (.int .i64 b.start), (.slice k.nb b.next.length k.nc), (.slice k.fb b.final.length k.fc), (.slice bx3 (ks.length + 1) c4), (.map (some m))], rowI bx3 c4 86 2 ((prs b.next.length ks) ++ [.int .i64 ((c / b.next.length : Nat) : Int), .int .i64 ((c % b.next.length : Nat) : Int)]), mapI pairV (fun n : Nat => Value.int .i64 (n : Int)) m ((pmap b.next.length ks) ++ [(un b.next.length c, ks.length)])], (by exact Sub.d (.d (.k (.k (.k .z))))), by rw [ix_append_right hk]; simp [ix], _, _, by rw [prs_snoc, pmap_snoc, List.length_append]; rfl⟩
theorem pvC (base : World) (a b : DFA) (j k : DK) (bp m : Nat) (ks : List Nat) (c : Nat) (qb : Option Addr) (qc : Nat) (hl : ks.length ≤ 17000000) :
    CallT Tryd.prog base 88 [.pointer (some ⟨bp, 0, none⟩), (.agg #[.int .i64 ((c / b.next.length : Nat) : Int), .int .i64 ((c % b.next.length : Nat) : Int)])] [objI bp (.cells (List.toArray [(.int .i64 a.vars), (.int .i64 a.start), (.slice j.nb a.next.length j.nc), (.slice j.fb a.final.length j.fc), (.int .i64 b.vars), (.int .i64 b.start), (.slice k.nb b.next.length k.nc), (.slice k.fb b.final.length k.fc), (.slice qb ks.length qc), (.map (some m))]) 90 (0, 0)), rowI qb qc 86 2 (prs b.next.length ks), mapI pairV (fun n : Nat => Value.int .i64 (n : Int)) m (pmap b.next.length ks)] (fun v O' => v = .int .i64 ((ix c (add ks c) : Nat) : Int) ∧ ∃ qb' qc', O' = [objI bp (.cells (List.toArray [(.int .i64 a.vars), (.int .i64 a.start), (.slice j.nb a.next.length j.nc), (.slice j.fb a.final.length j.fc), (.int .i64 b.vars), (.int .i64 b.start), (.slice k.nb b.next.length k.nc), (.slice k.fb b.final.length k.fc), (.slice qb' ((add ks c).length) qc'), (.map (some m))]) 90 (0, 0)), rowI qb' qc' 86 2 (prs b.next.length (add ks c)), mapI pairV (fun n : Nat => Value.int .i64 (n : Int)) m (pmap b.next.length (add ks c))]) := by
  by_cases hk : c ∈ ks
  · exact pvHit base a b j k bp m ks c qb qc hk hl
  · exact pvNew base a b j k bp m ks c qb qc hk hl
end Go.Proofs.YtdaapdamcekkgaaDoor

namespace Go.Proofs.YtdaapdamcekkgaaDoor
open Go.Lx Go.RowKit
set_option linter.unusedVariables false
set_option linter.unusedSimpArgs false
theorem pvS (base : World) (f : Bool → Bool → Bool) (a b : DFA) (j k : DK) (bp m i o x : Nat) (qb : Option Addr) (qc : Nat) (va : Valid a) (vb : Valid b) (hv : a.vars = b.vars) (hq : (bfsN (prodD f a b) i)[i]? = some o) (hx : x < 2 ^ a.vars.toNat) :
    CallT Tryd.prog base 88 [.pointer (some ⟨bp, 0, none⟩), (.agg #[.int .i64 (((toN (prodD f a b) o x) / b.next.length : Nat) : Int), .int .i64 (((toN (prodD f a b) o x) % b.next.length : Nat) : Int)])] [objI bp (.cells (List.toArray [(.int .i64 a.vars), (.int .i64 a.start), (.slice j.nb a.next.length j.nc), (.slice j.fb a.final.length j.fc), (.int .i64 b.vars), (.int .i64 b.start), (.slice k.nb b.next.length k.nc), (.slice k.fb b.final.length k.fc), (.slice qb ((bfsM (prodD f a b) i o x).length) qc), (.map (some m))]) 90 (0, 0)), rowI qb qc 86 2 (prs b.next.length (bfsM (prodD f a b) i o x)), mapI pairV (fun n : Nat => Value.int .i64 (n : Int)) m (pmap b.next.length (bfsM (prodD f a b) i o x))] (fun v O' => v = .int .i64 ((ix (toN (prodD f a b) o x) (order (prodD f a b)) : Nat) : Int) ∧ ∃ qb' qc', O' = [objI bp (.cells (List.toArray [(.int .i64 a.vars), (.int .i64 a.start), (.slice j.nb a.next.length j.nc), (.slice j.fb a.final.length j.fc), (.int .i64 b.vars), (.int .i64 b.start), (.slice k.nb b.next.length k.nc), (.slice k.fb b.final.length k.fc), (.slice qb' ((bfsM (prodD f a b) i o (x + 1)).length) qc'), (.map (some m))]) 90 (0, 0)), rowI qb' qc' 86 2 (prs b.next.length (bfsM (prodD f a b) i o (x + 1))), mapI pairV (fun n : Nat => Value.int .i64 (n : Int)) m (pmap b.next.length (bfsM (prodD f a b) i o (x + 1)))]) := by
  have ho := (pr_bfs_ok (f := f) va vb hv i).2 o (List.mem_of_getElem? hq)
  have hil := (List.getElem?_eq_some_iff.1 hq).1
  have hbl := pr_bfs_len (f := f) va vb hv i
  have hml := pr_bfsM_len (f := f) va vb hv (i := i) ho (Nat.le_of_lt hx)
  have h4 : a.next.length * b.next.length ≤ 4096 * 4096 := Nat.mul_le_mul va.n4 vb.n4
  rw [bfsM_step]
  refine (pvC base a b j k bp m (bfsM (prodD f a b) i o x) (toN (prodD f a b) o x) qb qc (by omega)).mono ?_
  rintro v O' ⟨rfl, h⟩
  refine ⟨?_, h⟩
  rw [← bfsM_step, visit_old hq (x := x + 1) hx (by rw [prod_len]; omega) (by rw [bfsM_step]; exact mem_add.2 (.inr rfl))]
set_option maxHeartbeats 1000000 in
set_option maxRecDepth 20000 in
theorem pairs1 (base : World) (f : Bool → Bool → Bool) (a b : DFA) (j k : DK) (ha : At base a j) (hb : At base b k) (va : Valid a) (vb : Valid b) (hv : a.vars = b.vars) (L : Nat) (hL : 2 ^ a.vars.toNat = L) (bx bp m : Nat) (qb0 : Option Addr) (qc0 : Nat) (yv : Value) (J : Nat → List Lx.Item → Prop) (Q : List Lx.Item → Prop)
    (hy : ∀ (i o : Nat) (qb : Option Addr) (qc rb : Nat) (O : List Lx.Item), (bfsN (prodD f a b) i)[i]? = some o → J i O → CallV Tryd.prog base yv [(.agg #[.int .i64 ((o / b.next.length : Nat) : Int), .int .i64 ((o % b.next.length : Nat) : Int)]), .slice (some ⟨rb, 0, none⟩) L L] (O ++ [oI bp 90 [(.int .i64 a.vars), (.int .i64 a.start), (.slice j.nb a.next.length j.nc), (.slice j.fb a.final.length j.fc), (.int .i64 b.vars), (.int .i64 b.start), (.slice k.nb b.next.length k.nc), (.slice k.fb b.final.length k.fc), (.slice qb ((bfsN (prodD f a b) (i + 1)).length) qc), (.map (some m))], rowI qb qc 86 2 (prs b.next.length (bfsN (prodD f a b) (i + 1))), mapI pairV (fun n : Nat => Value.int .i64 (n : Int)) m (pmap b.next.length (bfsN (prodD f a b) (i + 1))), rowI (some ⟨rb, 0, none⟩) L 3 1 (ints (rnR (prodD f a b) o))])
      (fun v O' => (v = .bool true ∧ ∃ O2, O' = O2 ++ [oI bp 90 [(.int .i64 a.vars), (.int .i64 a.start), (.slice j.nb a.next.length j.nc), (.slice j.fb a.final.length j.fc), (.int .i64 b.vars), (.int .i64 b.start), (.slice k.nb b.next.length k.nc), (.slice k.fb b.final.length k.fc), (.slice qb ((bfsN (prodD f a b) (i + 1)).length) qc), (.map (some m))], rowI qb qc 86 2 (prs b.next.length (bfsN (prodD f a b) (i + 1))), mapI pairV (fun n : Nat => Value.int .i64 (n : Int)) m (pmap b.next.length (bfsN (prodD f a b) (i + 1)))] ∧ J (i + 1) O2) ∨ (v = .bool false ∧ Q O')))
    (O : List Lx.Item) (h0 : J 0 O) :
    CallT Tryd.prog base 87 [yv, .pointer (some ⟨bx, 0, none⟩)] ([oI bx 79 [(.pointer (some ⟨bp, 0, none⟩))], oI bp 90 [(.int .i64 a.vars), (.int .i64 a.start), (.slice j.nb a.next.length j.nc), (.slice j.fb a.final.length j.fc), (.int .i64 b.vars), (.int .i64 b.start), (.slice k.nb b.next.length k.nc), (.slice k.fb b.final.length k.fc), (.slice qb0 ((bfsN (prodD f a b) 0).length) qc0), (.map (some m))], rowI qb0 qc0 86 2 (prs b.next.length (bfsN (prodD f a b) 0)), mapI pairV (fun n : Nat => Value.int .i64 (n : Int)) m (pmap b.next.length (bfsN (prodD f a b) 0))] ++ O) (fun _ O' => (∃ N qb qc O2, O' = O2 ++ [oI bp 90 [(.int .i64 a.vars), (.int .i64 a.start), (.slice j.nb a.next.length j.nc), (.slice j.fb a.final.length j.fc), (.int .i64 b.vars), (.int .i64 b.start), (.slice k.nb b.next.length k.nc), (.slice k.fb b.final.length k.fc), (.slice qb ((bfsN (prodD f a b) N).length) qc), (.map (some m))], rowI qb qc 86 2 (prs b.next.length (bfsN (prodD f a b) N)), mapI pairV (fun n : Nat => Value.int .i64 (n : Int)) m (pmap b.next.length (bfsN (prodD f a b) N))] ∧ (bfsN (prodD f a b) N).length = N ∧ J N O2) ∨ Q O') := by
  refine CallT.enter Tryd.func87 rfl Tryd.ntmps87 rfl ?_
  have h4 : a.next.length * b.next.length ≤ 4096 * 4096 := Nat.mul_le_mul va.n4 vb.n4
  have hw : L ≤ 64 := by rw [← hL]; exact va.width
  have ha1 := ha.rows.1
  have hb1 := hb.rows.1
  refine T.seq (T.region ?_)
  refine TO.quiet (q_assign rfl) ?_
  refine TO.nil (T.block ?_)
  refine T.loop (fun (i : Nat) ρ O => ∃ (qb : Option Addr) (qc : Nat) (O1 : List Lx.Item), O = ([oI bx 79 [(.pointer (some ⟨bp, 0, none⟩))], oI bp 90 [(.int .i64 a.vars), (.int .i64 a.start), (.slice j.nb a.next.length j.nc), (.slice j.fb a.final.length j.fc), (.int .i64 b.vars), (.int .i64 b.start), (.slice k.nb b.next.length k.nc), (.slice k.fb b.final.length k.fc), (.slice qb ((bfsN (prodD f a b) i).length) qc), (.map (some m))], rowI qb qc 86 2 (prs b.next.length (bfsN (prodD f a b) i)), mapI pairV (fun n : Nat => Value.int .i64 (n : Int)) m (pmap b.next.length (bfsN (prodD f a b) i))] ++ O1) ∧ i ≤ (bfsN (prodD f a b) i).length ∧ J i O1 ∧ Heads [(0, yv), (1, (.pointer (some ⟨bx, 0, none⟩))), (3, .int .i64 ((i : Nat) : Int))] ρ) (fun i => a.next.length * b.next.length - i) 0 ?_ ?_
  · exact ⟨qb0, qc0, O, rfl, Nat.zero_le _, h0, ⟨rfl, rfl, rfl, trivial⟩⟩
  rintro i ρ O ⟨qb, qc, O1, rfl, hle, hJ, hH⟩
  obtain ⟨ρ0, rfl⟩ := hH.elim
  clear hH
  have hbl := pr_bfs_len (f := f) va vb hv i
  refine T.seq (T.seq (T.region ?_))
  refine TO.quiet (q_move rfl) (TO.quiet (q_load_box 0 Tryd.underlying79 rfl rfl rfl rfl) (TO.quiet (q_nilCheck rfl) (TO.quiet (q_fieldAddr Tryd.underlying90 rfl inf87 rfl rfl) ?_)))
  refine TO.quiet (q_load_box 1 Tryd.underlying87 rfl rfl rfl rfl) (TO.quiet (q_len Tryd.underlying87 rfl) (TO.quiet (q_lss rfl rfl) ?_))
  refine TO.nil ?_
  refine T.condP rfl (fun hc => ?_) (fun hc => ?_)
  · have hlt13 : i < (bfsN (prodD f a b) i).length := by omega
    obtain ⟨o, hq⟩ : ∃ o, (bfsN (prodD f a b) i)[i]? = some o := ⟨_, List.getElem?_eq_getElem hlt13⟩
    have ho := (pr_bfs_ok (f := f) va vb hv i).2 o (List.mem_of_getElem? hq)
    obtain ⟨hs, ht⟩ := pr_split ho
    obtain ⟨v1, c1, g1, s1⟩ := ha.rows.get hs
    obtain ⟨v2, c2, g2, s2⟩ := hb.rows.get ht
    refine T.skip (T.seq (T.block (T.seq (T.region ?_))))
    refine TO.quiet (q_load_box 0 Tryd.underlying79 rfl rfl rfl rfl) (TO.quiet (q_nilCheck rfl) (TO.quiet (q_fieldAddr Tryd.underlying90 rfl inf87 rfl rfl) (TO.quiet (q_load_box 1 Tryd.underlying87 rfl rfl rfl rfl) ?_)))
    refine TO.quiet (q_move rfl) (TO.quiet (q_ixK (i := i) Tryd.underlying87 inf86 rfl rfl (rowO (List.mem_of_getElem? (i := 2) rfl)) hlt13 (by rw [prs_len]; omega)) (TO.quiet (q_ldK (vs := [.int .i64 ((o / b.next.length : Nat) : Int), .int .i64 ((o % b.next.length : Nat) : Int)]) Tryd.underlying86 rfl inf86 rfl rfl (Nat.succ_pos _) (rowO (List.mem_of_getElem? (i := 2) rfl)) (prs_get hq)) ?_))
    refine TO.loud rfl (l_alloc inf86 rfl (fun z1 => ?_))
    refine TO.loud rfl (l_store_box (v := (.agg #[.int .i64 ((o / b.next.length : Nat) : Int), .int .i64 ((o % b.next.length : Nat) : Int)])) (vs := [.int .i64 ((o / b.next.length : Nat) : Int), .int .i64 ((o % b.next.length : Nat) : Int)]) 0 inf86 rfl rfl rfl rfl rfl rfl (by simp [putL]) ?_)
    refine TO.nil (T.seq (T.region ?_))
    refine TO.quiet (q_load_box 1 Tryd.underlying79 rfl rfl rfl rfl) (TO.quiet (q_nilCheck rfl) (TO.quiet (q_fieldAddr Tryd.underlying90 rfl inf25 rfl rfl) (TO.quiet (q_fieldAddr Tryd.underlying25 rfl inf3 rfl rfl) ?_)))
    refine TO.quiet (q_load_box 2 Tryd.underlying3 rfl rfl rfl rfl) (TO.quiet (QT.cast (q_shl1 (v := a.vars.toNat) rfl (by show Value.int _ a.vars = _; rw [Int.toNat_of_nonneg va.v0]) (by have := va.v6; omega)) (v' := .int .i64 ((L : Nat) : Int)) (by rw [hL])) ?_)
    refine TO.loud rfl (l_makeSlice (m := L) Tryd.underlying52 inf3 rfl rfl (by omega) (by omega) (fun z2 => ?_))
    refine TO.quiet (q_assign rfl) ?_
    refine TO.nil (T.seq (T.seq (T.region ?_)))
    refine TO.quiet (q_move rfl) (TO.quiet (q_len Tryd.underlying52 rfl) (TO.quiet (q_move rfl) ?_))
    refine TO.nil (T.block ?_)
    refine T.sub (O' := ([oI bp 90 [(.int .i64 a.vars), (.int .i64 a.start), (.slice j.nb a.next.length j.nc), (.slice j.fb a.final.length j.fc), (.int .i64 b.vars), (.int .i64 b.start), (.slice k.nb b.next.length k.nc), (.slice k.fb b.final.length k.fc), (.slice qb ((bfsN (prodD f a b) i).length) qc), (.map (some m))], rowI qb qc 86 2 (prs b.next.length (bfsN (prodD f a b) i)), mapI pairV (fun n : Nat => Value.int .i64 (n : Int)) m (pmap b.next.length (bfsN (prodD f a b) i)), rowI (some ⟨z2, 0, none⟩) L 3 1 (List.replicate L (.int .i64 0)), oI z1 86 [.int .i64 ((o / b.next.length : Nat) : Int), .int .i64 ((o % b.next.length : Nat) : Int)], oI bx 79 [(.pointer (some ⟨bp, 0, none⟩))]] ++ O1)) (by exact Sub.pull [rowI (some ⟨z2, 0, none⟩) L 3 1 (List.replicate L (.int .i64 0)), oI z1 86 [.int .i64 ((o / b.next.length : Nat) : Int), .int .i64 ((o % b.next.length : Nat) : Int)], oI bx 79 [(.pointer (some ⟨bp, 0, none⟩))]] _ (.pull [rowI (some ⟨z2, 0, none⟩) L 3 1 (List.replicate L (.int .i64 0)), oI z1 86 [.int .i64 ((o / b.next.length : Nat) : Int), .int .i64 ((o % b.next.length : Nat) : Int)], oI bx 79 [(.pointer (some ⟨bp, 0, none⟩))]] _ (.pull [rowI (some ⟨z2, 0, none⟩) L 3 1 (List.replicate L (.int .i64 0)), oI z1 86 [.int .i64 ((o / b.next.length : Nat) : Int), .int .i64 ((o % b.next.length : Nat) : Int)], oI bx 79 [(.pointer (some ⟨bp, 0, none⟩))]] _ (.k (.k (.k .rf)))))) ?_
    refine T.loop (fun (x : Nat) ρ O => ∃ (qbm : Option Addr) (qcm : Nat) (ys : List Nat), O = ([oI bp 90 [(.int .i64 a.vars), (.int .i64 a.start), (.slice j.nb a.next.length j.nc), (.slice j.fb a.final.length j.fc), (.int .i64 b.vars), (.int .i64 b.start), (.slice k.nb b.next.length k.nc), (.slice k.fb b.final.length k.fc), (.slice qbm ((bfsM (prodD f a b) i o x).length) qcm), (.map (some m))], rowI qbm qcm 86 2 (prs b.next.length (bfsM (prodD f a b) i o x)), mapI pairV (fun n : Nat => Value.int .i64 (n : Int)) m (pmap b.next.length (bfsM (prodD f a b) i o x)), rowI (some ⟨z2, 0, none⟩) L 3 1 (nats ys), oI z1 86 [.int .i64 ((o / b.next.length : Nat) : Int), .int .i64 ((o % b.next.length : Nat) : Int)], oI bx 79 [(.pointer (some ⟨bp, 0, none⟩))]] ++ O1) ∧ x ≤ L ∧ ys.length = L ∧ (∀ y, y < x → ys[y]? = some (ix (toN (prodD f a b) o y) (order (prodD f a b)))) ∧ Heads [(0, yv), (1, (.pointer (some ⟨bx, 0, none⟩))), (3, .int .i64 ((i : Nat) : Int)), (4, (.pointer (some ⟨z1, 0, none⟩))), (5, (.slice (some ⟨z2, 0, none⟩) L L)), (31, .int .i64 (L : Int)), (32, .int .i64 ((x : Nat) : Int))] ρ) (fun x => L - x) 0 ?_ ?_
    · refine ⟨qb, qc, List.replicate L 0, ?_, Nat.zero_le _, by simp, fun y hy9 => absurd hy9 (by omega), ⟨rfl, rfl, rfl, rfl, rfl, rfl, rfl, trivial⟩⟩
      rw [show List.replicate L (Value.int .i64 0) = nats (List.replicate L 0) by simp]; rfl
    rintro x ρ O ⟨qbm, qcm, ys, rfl, hx, hyl, hys, hH⟩
    obtain ⟨ρ0, rfl⟩ := hH.elim
    clear hH
    refine T.seq (T.region ?_)
    refine TO.quiet (q_lss rfl rfl) ?_
    refine TO.nil (T.seq ?_)
    refine T.condP rfl (fun hc => ?_) (fun hc => ?_)
    · have hlt33 : x < L := by omega
      have hxa : x < 2 ^ a.vars.toNat := by omega
      have hxb : x < 2 ^ b.vars.toNat := by rw [← hv]; exact hxa
      obtain ⟨t1, _, x1, d1⟩ := va.toN_lt hs hxa
      obtain ⟨t2, _, x2, d2⟩ := vb.toN_lt ht hxb
      have hst := (pr_toN_lt (f := f) va vb hv ho hxa).1
      have hdm := pr_div (n := b.next.length) (s := toN a (o / b.next.length) x) t2
      rw [← hst] at hdm
      have hx1 : (ints a.next[o / b.next.length])[x]? = some (.int .i64 ((toN (prodD f a b) o x / b.next.length : Nat) : Int)) := by rw [ints_get x1, d1, hdm.1]
      have hx2 : (ints b.next[o % b.next.length])[x]? = some (.int .i64 ((toN (prodD f a b) o x % b.next.length : Nat) : Int)) := by rw [ints_get x2, d2, hdm.2]
      refine T.skip (T.seq (T.block (T.seq (T.region ?_))))
      refine TO.quiet (q_move rfl) (TO.quiet (q_assign rfl) ?_)
      refine TO.nil ?_
      refine T.draws2 [] [oI bp 90 [(.int .i64 a.vars), (.int .i64 a.start), (.slice j.nb a.next.length j.nc), (.slice j.fb a.final.length j.fc), (.int .i64 b.vars), (.int .i64 b.start), (.slice k.nb b.next.length k.nc), (.slice k.fb b.final.length k.fc), (.slice qbm ((bfsM (prodD f a b) i o x).length) qcm), (.map (some m))], oI z1 86 [.int .i64 ((o / b.next.length : Nat) : Int), .int .i64 ((o % b.next.length : Nat) : Int)], oI bx 79 [(.pointer (some ⟨bp, 0, none⟩))]] [(0, 0), (1, 0), (2, 3), (3, 3), (4, 3), (5, 3), (6, 3), (7, 3), (8, 3), (9, 3), (10, 3), (11, 3), (12, 3), (13, 3), (14, 3), (15, 3), (16, 3), (17, 3), (18, 3), (19, 3), (20, 3), (21, 3), (22, 3), (23, 3), (24, 3), (25, 3), (26, 3), (27, 3), (28, 4), (29, 2), (30, 2)] mixed (by kernel_rfl) (Sub.of (List.nil_sublist _)) (by exact Sub.k (.d (.d (.d (.k (.k .z)))))) (fun _ _ _ h => h) ?_
      refine DO.quiet rfl (q_move rfl) (DO.quiet rfl (q_move rfl) ?_)
      refine DO.quiet2 rfl (q_load_box 2 Tryd.underlying79 rfl rfl rfl rfl) ?_
      refine DO.quiet2 rfl (q_load_box 2 Tryd.underlying79 rfl rfl rfl rfl) ?_
      refine DO.quiet2 rfl (q_nilCheck rfl) ?_
      refine DO.quiet2 rfl (q_fieldAddr Tryd.underlying90 rfl inf25 rfl rfl) ?_
      refine DO.quiet2 rfl (q_fieldAddr Tryd.underlying25 rfl inf22 rfl rfl) ?_
      refine DO.quiet2 rfl (q_load_box 0 Tryd.underlying22 rfl rfl rfl rfl) ?_
      refine DO.quiet2 rfl (q_fieldAddr Tryd.underlying86 rfl inf3 rfl rfl) ?_
      refine DO.quiet2 rfl (q_load_box 1 Tryd.underlying3 rfl rfl rfl rfl) ?_
      refine DO.quiet2 rfl (q_ix (i := (o / b.next.length)) Tryd.underlying22 inf52 rfl rfl (Sl.o ha.outer) hs (by rw [ha1]; exact hs)) ?_
      refine DO.quiet2 rfl (q_ld Tryd.underlying52 rfl rfl (Sl.o ha.outer) g1) ?_
      refine DO.quiet2 rfl (q_move rfl) ?_
      refine DO.quiet2 rfl (q_ix (i := x) Tryd.underlying52 inf3 rfl rfl (Sl.o s1) x1 (by rw [List.length_map]; exact x1)) ?_
      refine DO.quiet2 rfl (q_ld Tryd.underlying3 rfl rfl (Sl.o s1) hx1) ?_
      refine DO.quiet2 rfl (q_load_box 2 Tryd.underlying79 rfl rfl rfl rfl) ?_
      refine DO.quiet2 rfl (q_nilCheck rfl) ?_
      refine DO.quiet2 rfl (q_fieldAddr Tryd.underlying90 rfl inf25 rfl rfl) ?_
      refine DO.quiet2 rfl (q_fieldAddr Tryd.underlying25 rfl inf22 rfl rfl) ?_
      refine DO.quiet2 rfl (q_load_box 0 Tryd.underlying22 rfl rfl rfl rfl) ?_
      refine DO.quiet2 rfl (q_fieldAddr Tryd.underlying86 rfl inf3 rfl rfl) ?_
      refine DO.quiet2 rfl (q_load_box 1 Tryd.underlying3 rfl rfl rfl rfl) ?_
      refine DO.quiet2 rfl (q_ix (i := (o % b.next.length)) Tryd.underlying22 inf52 rfl rfl (Sl.o hb.outer) ht (by rw [hb1]; exact ht)) ?_
      refine DO.quiet2 rfl (q_ld Tryd.underlying52 rfl rfl (Sl.o hb.outer) g2) ?_
      refine DO.quiet2 rfl (q_move rfl) ?_
      refine DO.quiet2 rfl (q_ix (i := x) Tryd.underlying52 inf3 rfl rfl (Sl.o s2) x2 (by rw [List.length_map]; exact x2)) ?_
      refine DO.quiet2 rfl (q_ld Tryd.underlying3 rfl rfl (Sl.o s2) hx2) ?_
      refine DO.quiet2 rfl (q_build (cs := [.int .i64 (((toN (prodD f a b) o x) / b.next.length : Nat) : Int), .int .i64 (((toN (prodD f a b) o x) % b.next.length : Nat) : Int)]) plan86 inf86 (by kernel_rfl)) ?_
      have hk63 := CallT.under (B := ([rowI (some ⟨z2, 0, none⟩) L 3 1 (nats ys), oI z1 86 [.int .i64 ((o / b.next.length : Nat) : Int), .int .i64 ((o % b.next.length : Nat) : Int)], oI bx 79 [(.pointer (some ⟨bp, 0, none⟩))]] ++ O1)) (O := ([oI bp 90 [(.int .i64 a.vars), (.int .i64 a.start), (.slice j.nb a.next.length j.nc), (.slice j.fb a.final.length j.fc), (.int .i64 b.vars), (.int .i64 b.start), (.slice k.nb b.next.length k.nc), (.slice k.fb b.final.length k.fc), (.slice qbm ((bfsM (prodD f a b) i o x).length) qcm), (.map (some m))], rowI qbm qcm 86 2 (prs b.next.length (bfsM (prodD f a b) i o x)), mapI pairV (fun n : Nat => Value.int .i64 (n : Int)) m (pmap b.next.length (bfsM (prodD f a b) i o x)), rowI (some ⟨z2, 0, none⟩) L 3 1 (nats ys), oI z1 86 [.int .i64 ((o / b.next.length : Nat) : Int), .int .i64 ((o % b.next.length : Nat) : Int)], oI bx 79 [(.pointer (some ⟨bp, 0, none⟩))]] ++ O1)) (pvS base f a b j k bp m i o x qbm qcm va vb hv hq (by omega)) (by exact Sub.rf)
      refine DO.last2 rfl rfl (l_call ent88 hk63 rfl ?_)
      clear hk63
      rintro vr O' ⟨A1, rfl, rfl, qb2, qc2, rfl⟩
      refine ⟨by exact Sub.z, ?_⟩
      refine DO.last rfl rfl (LT.of_quiet rfl rfl (q_ix (i := x) Tryd.underlying52 inf3 rfl rfl (rowO (List.mem_of_getElem? (i := 3) rfl))) ?_)
      refine DO.last rfl rfl (l_st (j := x) (v := .int .i64 ((ix (toN (prodD f a b) o x) (order (prodD f a b)) : Nat) : Int)) (vs := [(.int .i64 ((ix (toN (prodD f a b) o x) (order (prodD f a b)) : Nat) : Int))]) (cs := nats ys) 3 inf3 rfl rfl rfl rfl rfl (by simp) rfl (by first | (simp; omega) | (simp_all; omega)) ?_)
      refine DO.sub (O' := ([oI bp 90 [(.int .i64 a.vars), (.int .i64 a.start), (.slice j.nb a.next.length j.nc), (.slice j.fb a.final.length j.fc), (.int .i64 b.vars), (.int .i64 b.start), (.slice k.nb b.next.length k.nc), (.slice k.fb b.final.length k.fc), (.slice qb2 ((bfsM (prodD f a b) i o (x + 1)).length) qc2), (.map (some m))], rowI qb2 qc2 86 2 (prs b.next.length (bfsM (prodD f a b) i o (x + 1))), mapI pairV (fun n : Nat => Value.int .i64 (n : Int)) m (pmap b.next.length (bfsM (prodD f a b) i o (x + 1))), rowI (some ⟨z2, 0, none⟩) L 3 1 (nats (ys.set x (ix (toN (prodD f a b) o x) (order (prodD f a b))))), oI z1 86 [.int .i64 ((o / b.next.length : Nat) : Int), .int .i64 ((o % b.next.length : Nat) : Int)], oI bx 79 [(.pointer (some ⟨bp, 0, none⟩))]] ++ O1)) (by rw [show putL (nats ys) x [(.int .i64 ((ix (toN (prodD f a b) o x) (order (prodD f a b)) : Nat) : Int))] = nats (ys.set x (ix (toN (prodD f a b) o x) (order (prodD f a b)))) from by simp [putL]]; exact Sub.of (List.Sublist.refl _)) ?_
      refine DO.done ?_
      refine T.region ?_
      refine TO.quiet (q_addN (a := x) (b := 1) rfl rfl (by omega)) (TO.quiet (q_move rfl) ?_)
      refine TO.nil ?_
      refine ⟨x + 1, by omega, qb2, qc2, ys.set x (ix (toN (prodD f a b) o x) (order (prodD f a b))), rfl, by omega, by simp [hyl], fun y hy9 => ?_, ⟨rfl, rfl, rfl, rfl, rfl, rfl, rfl, trivial⟩⟩
      by_cases e : y = x
      · subst e; rw [List.getElem?_set_self (by omega)]
      · rw [List.getElem?_set_ne (fun h => e h.symm)]; exact hys y (by omega)
    have hge33 : ¬ x < L := by omega
    refine T.exit ?_
    refine T.seq ?_
    have hxe : x = L := by omega
    have e1 : bfsN (prodD f a b) (i + 1) = bfsM (prodD f a b) i o x := by rw [hxe, ← hL]; exact (bfsM_full hq).symm
    have e3 : renRow (prodD f a b) o = ys := by
      apply List.ext_getElem?
      intro y
      by_cases hy9 : y < L
      · rw [hys y (by omega)]
        have hy8 : y < 2 ^ (prodD f a b).vars.toNat := by show y < 2 ^ a.vars.toNat; omega
        unfold renRow
        rw [List.getElem?_map, sucs_get hy8]; rfl
      · rw [List.getElem?_eq_none (by rw [renRow_length]; show 2 ^ a.vars.toNat ≤ y; omega), List.getElem?_eq_none (by omega)]
    have e2 : ints (rnR (prodD f a b) o) = nats ys := by unfold rnR; rw [e3]; simp [Function.comp_def]
    refine T.sub (O' := ([oI bp 90 [(.int .i64 a.vars), (.int .i64 a.start), (.slice j.nb a.next.length j.nc), (.slice j.fb a.final.length j.fc), (.int .i64 b.vars), (.int .i64 b.start), (.slice k.nb b.next.length k.nc), (.slice k.fb b.final.length k.fc), (.slice qbm ((bfsN (prodD f a b) (i + 1)).length) qcm), (.map (some m))], rowI qbm qcm 86 2 (prs b.next.length (bfsN (prodD f a b) (i + 1))), mapI pairV (fun n : Nat => Value.int .i64 (n : Int)) m (pmap b.next.length (bfsN (prodD f a b) (i + 1))), rowI (some ⟨z2, 0, none⟩) L 3 1 (ints (rnR (prodD f a b) o)), oI z1 86 [.int .i64 ((o / b.next.length : Nat) : Int), .int .i64 ((o % b.next.length : Nat) : Int)], oI bx 79 [(.pointer (some ⟨bp, 0, none⟩))]] ++ O1)) (by rw [e1, e2]; exact Sub.rf) ?_
    refine T.region ?_
    refine TO.quiet (q_move rfl) (TO.quiet (q_load_boxAgg 4 Tryd.underlying86 rfl inf86 rfl rfl rfl) (TO.quiet (q_move rfl) ?_))
    have hk69 := CallV.under (B := [oI z1 86 [.int .i64 ((o / b.next.length : Nat) : Int), .int .i64 ((o % b.next.length : Nat) : Int)], oI bx 79 [(.pointer (some ⟨bp, 0, none⟩))]]) (O := ([oI bp 90 [(.int .i64 a.vars), (.int .i64 a.start), (.slice j.nb a.next.length j.nc), (.slice j.fb a.final.length j.fc), (.int .i64 b.vars), (.int .i64 b.start), (.slice k.nb b.next.length k.nc), (.slice k.fb b.final.length k.fc), (.slice qbm ((bfsN (prodD f a b) (i + 1)).length) qcm), (.map (some m))], rowI qbm qcm 86 2 (prs b.next.length (bfsN (prodD f a b) (i + 1))), mapI pairV (fun n : Nat => Value.int .i64 (n : Int)) m (pmap b.next.length (bfsN (prodD f a b) (i + 1))), rowI (some ⟨z2, 0, none⟩) L 3 1 (ints (rnR (prodD f a b) o)), oI z1 86 [.int .i64 ((o / b.next.length : Nat) : Int), .int .i64 ((o % b.next.length : Nat) : Int)], oI bx 79 [(.pointer (some ⟨bp, 0, none⟩))]] ++ O1)) (hy i o qbm qcm z2 O1 hq hJ) (Sub.cnt [] (by intro a; simp only [itms, oI, List.set_cons_zero, List.set_cons_succ, putL, List.cons_append, List.nil_append, List.append_nil, List.append_assoc, List.map_append, List.map_cons, List.map_nil, cnt_append, cnt_cons, cnt_nil] <;> omega))
    refine TO.loud rfl (l_callG hk69 rfl rfl ?_)
    clear hk69
    rintro vr O' ⟨A1, rfl, ⟨rfl, O2, rfl, hJ2⟩ | ⟨rfl, hQ2⟩⟩
    · refine TO.quiet (q_not rfl) ?_
      refine TO.nil ?_
      refine T.cond0 rfl ?_
      refine T.skip ?_
      refine T.sub (O' := ([oI bx 79 [(.pointer (some ⟨bp, 0, none⟩))], oI bp 90 [(.int .i64 a.vars), (.int .i64 a.start), (.slice j.nb a.next.length j.nc), (.slice j.fb a.final.length j.fc), (.int .i64 b.vars), (.int .i64 b.start), (.slice k.nb b.next.length k.nc), (.slice k.fb b.final.length k.fc), (.slice qbm ((bfsN (prodD f a b) (i + 1)).length) qcm), (.map (some m))], rowI qbm qcm 86 2 (prs b.next.length (bfsN (prodD f a b) (i + 1))), mapI pairV (fun n : Nat => Value.int .i64 (n : Int)) m (pmap b.next.length (bfsN (prodD f a b) (i + 1)))] ++ O2)) (Sub.cnt [oI z1 86 [.int .i64 ((o / b.next.length : Nat) : Int), .int .i64 ((o % b.next.length : Nat) : Int)]] (by intro a; simp only [itms, oI, List.set_cons_zero, List.set_cons_succ, putL, List.cons_append, List.nil_append, List.append_nil, List.append_assoc, List.map_append, List.map_cons, List.map_nil, cnt_append, cnt_cons, cnt_nil] <;> omega)) ?_
      refine T.region ?_
      refine TO.quiet (q_move rfl) (TO.quiet (q_addN (a := i) (b := 1) rfl rfl (by omega)) (TO.quiet (q_assign rfl) ?_))
      refine TO.nil ?_
      have hpl := (bfsN_prefix (prodD f a b) i (i + 1) (by omega)).length_le
      exact ⟨i + 1, by omega, qbm, qcm, O2, rfl, by omega, hJ2, ⟨rfl, rfl, rfl, trivial⟩⟩
    refine TO.quiet (q_not rfl) ?_
    refine TO.nil ?_
    refine T.cond1 rfl ?_
    refine T.ret (Res.drop ?_)
    refine Res.zero Tryd.results87 ?_
    exact ⟨A1, Sub.of (List.sublist_append_left _ _), .inr hQ2⟩
  have hge13 : ¬ i < (bfsN (prodD f a b) i).length := by omega
  refine T.exit ?_
  refine Res.drop ?_
  refine Res.zero Tryd.results87 ?_
  have hN : (bfsN (prodD f a b) i).length = i := by omega
  exact ⟨O1 ++ [oI bp 90 [(.int .i64 a.vars), (.int .i64 a.start), (.slice j.nb a.next.length j.nc), (.slice j.fb a.final.length j.fc), (.int .i64 b.vars), (.int .i64 b.start), (.slice k.nb b.next.length k.nc), (.slice k.fb b.final.length k.fc), (.slice qb ((bfsN (prodD f a b) i).length) qc), (.map (some m))], rowI qb qc 86 2 (prs b.next.length (bfsN (prodD f a b) i)), mapI pairV (fun n : Nat => Value.int .i64 (n : Int)) m (pmap b.next.length (bfsN (prodD f a b) i))], Sub.cnt [oI bx 79 [(.pointer (some ⟨bp, 0, none⟩))]] (by intro a; simp only [itms, oI, List.set_cons_zero, List.set_cons_succ, putL, List.cons_append, List.nil_append, List.append_nil, List.append_assoc, List.map_append, List.map_cons, List.map_nil, cnt_append, cnt_cons, cnt_nil] <;> omega), .inl ⟨i, qb, qc, O1, rfl, hN, hJ⟩⟩
end Go.Proofs.YtdaapdamcekkgaaDoor

namespace Go.Proofs.YtdaapdamcekkgaaDoor
open Go.Lx Go.RowKit
set_option linter.unusedVariables false
set_option linter.unusedSimpArgs false
theorem minK (w : World) (d : DFA) (k : DK) (h : At w d k) (hb : d.next.length < 9223372036854775807) (hbr : ∀ r ∈ d.next, r.length < 9223372036854775807) (hbf : d.final.length < 9223372036854775807) (hn : Valid d → d.next.length < 100) :
    PureT Tryd.prog 21 [dV d k] w fun v N => ∃ k' : DK, v = .tuple #[dV (minV d) k', .int .i64 (checkD d : Int)] ∧ N = [dI 52 4 3 (minV d) k'] :=
  CallT.dk (g := fun x => .tuple #[x, .int .i64 (checkD d : Int)]) (minA w d k.nb k.fb k.nc k.fc (vals k.qs) h hb hbr hbf hn)
theorem minKE (w : World) (d : DFA) (k : DK) (h : At w d k) (hv : Valid d) (hn : d.next.length < 100) {M : DFA} (hM : minD d = M) :
    PureT Tryd.prog 21 [dV d k] w fun v N => ∃ k' : DK, v = .tuple #[dV M k', .int .i64 0] ∧ N = [dI 52 4 3 M k'] := by
  have h1 := minK w d k h (by have := hv.n4; omega) hv.bound (by have := hv.fin; have := hv.n4; omega) (fun _ => hn)
  rw [minV_valid hv, hM, checkD_zero.2 hv] at h1
  exact h1
theorem rMinK (w : World) (d : DFA) (k : DK) (h : At w d k) (hb : d.next.length < 9223372036854775807) (hbr : ∀ r ∈ d.next, r.length < 9223372036854775807) (hbf : d.final.length < 9223372036854775807) (hn : Valid d → d.next.length < 100) :
    PureT Tryd.prog 42 [dV d k] w fun v N => ∃ k' : DK, v = .tuple #[dV (minV d) k', .int .i64 (checkD d : Int)] ∧ N = [dI 52 4 3 (minV d) k'] :=
  CallT.dk (g := fun x => .tuple #[x, .int .i64 (checkD d : Int)]) (rMinA w d k.nb k.fb k.nc k.fc (vals k.qs) h hb hbr hbf hn)
theorem rMinKE (w : World) (d : DFA) (k : DK) (h : At w d k) (hv : Valid d) (hn : d.next.length < 100) {M : DFA} (hM : minD d = M) :
    PureT Tryd.prog 42 [dV d k] w fun v N => ∃ k' : DK, v = .tuple #[dV M k', .int .i64 0] ∧ N = [dI 52 4 3 M k'] := by
  have h1 := rMinK w d k h (by have := hv.n4; omega) hv.bound (by have := hv.fin; have := hv.n4; omega) (fun _ => hn)
  rw [minV_valid hv, hM, checkD_zero.2 hv] at h1
  exact h1
set_option maxHeartbeats 1000000 in
set_option maxRecDepth 20000 in
theorem notF (base : World) (x y : Bool) : CallT Tryd.prog base 44 [.bool x, .bool y] [] (fun v O' => v = .bool (notB x y) ∧ O' = []) := by
  refine CallT.enter Tryd.func44 rfl Tryd.ntmps44 rfl ?_
  refine T.seq (T.region ?_)
  refine TO.quiet (q_assign rfl) ?_
  refine TO.nil (T.seq (T.region ?_))
  refine TO.quiet (q_move rfl) (TO.quiet (q_not rfl) (TO.quiet (q_assign rfl) ?_))
  refine TO.nil (T.ret ?_)
  refine Res.one (.bool (!x)) Tryd.results44 rfl ?_
  cases x <;> cases y <;> first | exact ⟨rfl, rfl⟩ | (exfalso; simp_all; done) | simp_all [andB, orB, xorB, minusB, notB]
set_option maxRecDepth 20000 in
theorem notFV (base : World) (x y : Bool) : CallV Tryd.prog base (.func (.func 44) #[] #[]) [.bool x, .bool y] [] (fun v O' => v = .bool (notB x y) ∧ O' = []) := CallV.of_fn (first := []) (caps := []) ent44 (notF base x y)
set_option maxHeartbeats 1000000 in
set_option maxRecDepth 20000 in
theorem andF (base : World) (x y : Bool) : CallT Tryd.prog base 56 [.bool x, .bool y] [] (fun v O' => v = .bool (andB x y) ∧ O' = []) := by
  refine CallT.enter Tryd.func56 rfl Tryd.ntmps56 rfl ?_
  refine T.seq (T.region ?_)
  refine TO.quiet (q_assign rfl) ?_
  refine TO.nil (T.seq (T.region ?_))
  refine TO.quiet (q_move rfl) ?_
  by_cases hs6 : x = true
  · refine TO.quiet (QT.toB (q_move rfl) (hs6)) ?_
    refine TO.guarded rfl rfl rfl (LT.of_quiet rfl rfl (q_move rfl) ?_)
    refine TO.quiet (q_pick1 rfl rfl) (TO.quiet (q_assign rfl) ?_)
    refine TO.nil (T.ret ?_)
    refine Res.one (.bool y) Tryd.results56 rfl ?_
    cases x <;> cases y <;> first | exact ⟨rfl, rfl⟩ | (exfalso; simp_all; done) | simp_all [andB, orB, xorB, minusB, notB]
  refine TO.quiet (QT.toB (q_move rfl) (Bool.eq_false_iff.2 hs6)) ?_
  refine TO.passed rfl rfl ?_
  refine TO.quiet (q_pick0 rfl rfl) (TO.quiet (q_assign rfl) ?_)
  refine TO.nil (T.ret ?_)
  refine Res.one (.bool false) Tryd.results56 rfl ?_
  cases x <;> cases y <;> first | exact ⟨rfl, rfl⟩ | (exfalso; simp_all; done) | simp_all [andB, orB, xorB, minusB, notB]
set_option maxRecDepth 20000 in
theorem andFV (base : World) (x y : Bool) : CallV Tryd.prog base (.func (.func 56) #[] #[]) [.bool x, .bool y] [] (fun v O' => v = .bool (andB x y) ∧ O' = []) := CallV.of_fn (first := []) (caps := []) ent56 (andF base x y)
set_option maxHeartbeats 1000000 in
set_option maxRecDepth 20000 in
theorem orF (base : World) (x y : Bool) : CallT Tryd.prog base 57 [.bool x, .bool y] [] (fun v O' => v = .bool (orB x y) ∧ O' = []) := by
  refine CallT.enter Tryd.func57 rfl Tryd.ntmps57 rfl ?_
  refine T.seq (T.region ?_)
  refine TO.quiet (q_assign rfl) ?_
  refine TO.nil (T.seq (T.region ?_))
  refine TO.quiet (q_move rfl) ?_
  by_cases hs6 : x = true
  · refine TO.quiet (QT.toB (q_move rfl) (hs6)) ?_
    refine TO.passed rfl rfl ?_
    refine TO.quiet (q_pick1 rfl rfl) (TO.quiet (q_assign rfl) ?_)
    refine TO.nil (T.ret ?_)
    refine Res.one (.bool true) Tryd.results57 rfl ?_
    cases x <;> cases y <;> first | exact ⟨rfl, rfl⟩ | (exfalso; simp_all; done) | simp_all [andB, orB, xorB, minusB, notB]
  refine TO.quiet (QT.toB (q_move rfl) (Bool.eq_false_iff.2 hs6)) ?_
  refine TO.guarded rfl rfl rfl (LT.of_quiet rfl rfl (q_move rfl) ?_)
  refine TO.quiet (q_pick0 rfl rfl) (TO.quiet (q_assign rfl) ?_)
  refine TO.nil (T.ret ?_)
  refine Res.one (.bool y) Tryd.results57 rfl ?_
  cases x <;> cases y <;> first | exact ⟨rfl, rfl⟩ | (exfalso; simp_all; done) | simp_all [andB, orB, xorB, minusB, notB]
set_option maxRecDepth 20000 in
theorem orFV (base : World) (x y : Bool) : CallV Tryd.prog base (.func (.func 57) #[] #[]) [.bool x, .bool y] [] (fun v O' => v = .bool (orB x y) ∧ O' = []) := CallV.of_fn (first := []) (caps := []) ent57 (orF base x y)
set_option maxHeartbeats 1000000 in
set_option maxRecDepth 20000 in
theorem xorF (base : World) (x y : Bool) : CallT Tryd.prog base 58 [.bool x, .bool y] [] (fun v O' => v = .bool (xorB x y) ∧ O' = []) := by
  refine CallT.enter Tryd.func58 rfl Tryd.ntmps58 rfl ?_
  refine T.seq (T.region ?_)
  refine TO.quiet (q_assign rfl) ?_
  refine TO.nil (T.seq (T.region ?_))
  refine TO.quiet (q_move rfl) (TO.quiet (q_move rfl) (TO.quiet (q_bneq Tryd.underlying4 rfl rfl) (TO.quiet (q_assign rfl) ?_)))
  refine TO.nil (T.ret ?_)
  refine Res.one (.bool (x != y)) Tryd.results58 rfl ?_
  cases x <;> cases y <;> first | exact ⟨rfl, rfl⟩ | (exfalso; simp_all; done) | simp_all [andB, orB, xorB, minusB, notB]
set_option maxRecDepth 20000 in
theorem xorFV (base : World) (x y : Bool) : CallV Tryd.prog base (.func (.func 58) #[] #[]) [.bool x, .bool y] [] (fun v O' => v = .bool (xorB x y) ∧ O' = []) := CallV.of_fn (first := []) (caps := []) ent58 (xorF base x y)
set_option maxHeartbeats 1000000 in
set_option maxRecDepth 20000 in
theorem minusF (base : World) (x y : Bool) : CallT Tryd.prog base 59 [.bool x, .bool y] [] (fun v O' => v = .bool (minusB x y) ∧ O' = []) := by
  refine CallT.enter Tryd.func59 rfl Tryd.ntmps59 rfl ?_
  refine T.seq (T.region ?_)
  refine TO.quiet (q_assign rfl) ?_
  refine TO.nil (T.seq (T.region ?_))
  refine TO.quiet (q_move rfl) ?_
  by_cases hs6 : x = true
  · refine TO.quiet (QT.toB (q_move rfl) (hs6)) ?_
    refine TO.guarded rfl rfl rfl (LT.of_quiet rfl rfl (q_move rfl) ?_)
    refine TO.guarded rfl rfl rfl (LT.of_quiet rfl rfl (q_not rfl) ?_)
    refine TO.quiet (q_pick1 rfl rfl) (TO.quiet (q_assign rfl) ?_)
    refine TO.nil (T.ret ?_)
    refine Res.one (.bool (!y)) Tryd.results59 rfl ?_
    cases x <;> cases y <;> first | exact ⟨rfl, rfl⟩ | (exfalso; simp_all; done) | simp_all [andB, orB, xorB, minusB, notB]
  refine TO.quiet (QT.toB (q_move rfl) (Bool.eq_false_iff.2 hs6)) ?_
  refine TO.passed rfl rfl ?_
  refine TO.passed rfl rfl ?_
  refine TO.quiet (q_pick0 rfl rfl) (TO.quiet (q_assign rfl) ?_)
  refine TO.nil (T.ret ?_)
  refine Res.one (.bool false) Tryd.results59 rfl ?_
  cases x <;> cases y <;> first | exact ⟨rfl, rfl⟩ | (exfalso; simp_all; done) | simp_all [andB, orB, xorB, minusB, notB]
set_option maxRecDepth 20000 in
theorem minusFV (base : World) (x y : Bool) : CallV Tryd.prog base (.func (.func 59) #[] #[]) [.bool x, .bool y] [] (fun v O' => v = .bool (minusB x y) ∧ O' = []) := CallV.of_fn (first := []) (caps := []) ent59 (minusF base x y)
set_option maxHeartbeats 1000000 in
set_option maxRecDepth 20000 in
theorem combineBad (w : World) (a b : DFA) (j k : DK) (ha : At w a j) (hb : At w b k) (haa : a.next.length < 9223372036854775807) (haar : ∀ r ∈ a.next, r.length < 9223372036854775807) (haaf : a.final.length < 9223372036854775807) (hbb : b.next.length < 9223372036854775807) (hbbr : ∀ r ∈ b.next, r.length < 9223372036854775807) (hbbf : b.final.length < 9223372036854775807) (g : Nat) (he : wrongD a b ≠ 0) :
    PureT Tryd.prog 43 [dV a j, dV b k, .func (.func g) #[] #[]] w fun v N => v = .tuple #[dV noD ⟨none, 0, none, 0, []⟩, .int .i64 (wrongD a b : Int)] ∧ N = [] := by
  refine CallT.enter Tryd.func43 rfl Tryd.ntmps43 rfl ?_
  refine T.seq (T.region ?_)
  refine TO.loud rfl (l_box (v := (dV a j)) (cs := (dC a j)) rfl rfl (fun bx1 => ?_))
  refine TO.loud rfl (l_box (v := (dV b k)) (cs := (dC b k)) rfl rfl (fun bx2 => ?_))
  refine TO.loud rfl (l_box (v := (.func (.func g) #[] #[])) (cs := [(.func (.func g) #[] #[])]) rfl rfl (fun bx3 => ?_))
  refine TO.loud rfl (l_alloc inf25 rfl (fun bx4 => ?_))
  refine TO.loud rfl (l_alloc inf29 rfl (fun bx5 => ?_))
  refine TO.nil (T.seq (T.region ?_))
  refine TO.quiet (q_load_boxAgg 4 Tryd.underlying25 rfl inf25 rfl rfl rfl) (TO.quiet (q_load_boxAgg 3 Tryd.underlying25 rfl inf25 rfl rfl rfl) ?_)
  have hk16 := fun (w1 : World) (hI : Inv w [oI bx5 29 [(.int .i64 0)], oI bx4 25 [(.int .i64 0), (.int .i64 0), (.slice none 0 0), (.slice none 0 0)], oI bx3 60 [(.func (.func g) #[] #[])], oI bx2 25 (dC b k), oI bx1 25 (dC a j)] w1) => beginBad w1 a b j k (hI.atB ha) (hI.atB hb) haa haar haaf hbb hbbr hbbf he
  refine TO.loud rfl (l_call ent69 (CallT.of_pure hk16) rfl ?_)
  clear hk16
  rintro vr O' ⟨N, rfl, rfl, rfl⟩
  refine TO.quiet (q_move rfl) (TO.quiet (q_extract (vs := _) rfl rfl) (TO.quiet (q_extract (vs := _) rfl rfl) ?_))
  refine TO.loud rfl (l_alloc inf79 rfl (fun bx6 => ?_))
  refine TO.loud rfl (l_store_box (v := .pointer none) (vs := [(.pointer none)]) 0 inf79 rfl rfl rfl rfl rfl rfl (by simp [putL]) ?_)
  refine TO.quiet (q_assign rfl) ?_
  refine TO.nil (T.seq (T.seq (T.region ?_)))
  refine TO.quiet (q_move rfl) (TO.quiet (q_neq rfl rfl) ?_)
  refine TO.nil ?_
  refine T.cond1 (congrArg Value.bool (decide_eq_true (by omega))) ?_
  refine T.seq (T.region ?_)
  refine TO.quiet (q_build plan25 inf25 rfl) (TO.quiet (q_move rfl) ?_)
  refine TO.loud rfl (l_store_box (v := (.agg #[(.int .i64 0), (.int .i64 0), (.slice none 0 0), (.slice none 0 0)])) (vs := [(.int .i64 0), (.int .i64 0), (.slice none 0 0), (.slice none 0 0)]) 2 inf25 rfl rfl rfl rfl rfl rfl (by simp [putL]) ?_)
  refine TO.loud rfl (l_store_box (v := .int .i64 (wrongD a b : Int)) (vs := [(.int .i64 (wrongD a b : Int))]) 1 inf29 rfl rfl rfl rfl rfl rfl (by simp [putL]) ?_)
  refine TO.nil (T.ret (Res.drop ?_))
  refine Res.cell2a (i := 2) (j := 1) Tryd.results43 Tryd.underlying25 rfl inf25 Tryd.underlying29 rfl rfl rfl rfl rfl rfl ?_
  exact ⟨[], Sub.z, rfl, rfl⟩
set_option maxHeartbeats 1000000 in
set_option maxRecDepth 20000 in
theorem combineOk (w : World) (a b : DFA) (j k : DK) (ha : At w a j) (hb : At w b k) (va : Valid a) (vb : Valid b) (hv : a.vars = b.vars) (f : Bool → Bool → Bool) (g : Nat) (hf : ∀ (base : World) (x y : Bool), CallV Tryd.prog base (.func (.func g) #[] #[]) [.bool x, .bool y] [] (fun v O' => v = .bool (f x y) ∧ O' = [])) (hn : a.next.length * b.next.length ≤ 4096) (hN9 : (order (prodD f a b)).length < 100) :
    PureT Tryd.prog 43 [dV a j, dV b k, .func (.func g) #[] #[]] w fun v N => ∃ k' : DK, v = .tuple #[dV (opD f a b) k', .int .i64 0] ∧ N = [dI 52 4 3 (opD f a b) k'] := by
  refine CallT.enter Tryd.func43 rfl Tryd.ntmps43 rfl ?_
  have h4 : a.next.length * b.next.length ≤ 4096 * 4096 := Nat.mul_le_mul va.n4 vb.n4
  obtain ⟨L, hL⟩ : ∃ L, 2 ^ a.vars.toNat = L := ⟨_, rfl⟩
  have hw : L ≤ 64 := by rw [← hL]; exact va.width
  refine T.seq (T.region ?_)
  refine TO.loud rfl (l_box (v := (dV a j)) (cs := (dC a j)) rfl rfl (fun z1 => ?_))
  refine TO.loud rfl (l_box (v := (dV b k)) (cs := (dC b k)) rfl rfl (fun z2 => ?_))
  refine TO.loud rfl (l_box (v := (.func (.func g) #[] #[])) (cs := [(.func (.func g) #[] #[])]) rfl rfl (fun z3 => ?_))
  refine TO.loud rfl (l_alloc inf25 rfl (fun z4 => ?_))
  refine TO.loud rfl (l_alloc inf29 rfl (fun z5 => ?_))
  refine TO.nil (T.seq (T.region ?_))
  refine TO.quiet (q_load_boxAgg 4 Tryd.underlying25 rfl inf25 rfl rfl rfl) (TO.quiet (q_load_boxAgg 3 Tryd.underlying25 rfl inf25 rfl rfl rfl) ?_)
  have hk16 := fun (w1 : World) (hI : Inv w [oI z5 29 [(.int .i64 0)], oI z4 25 [(.int .i64 0), (.int .i64 0), (.slice none 0 0), (.slice none 0 0)], oI z3 60 [(.func (.func g) #[] #[])], oI z2 25 (dC b k), oI z1 25 (dC a j)] w1) => beginOk w1 a b j k (hI.atB ha) (hI.atB hb) va vb hv
  refine TO.loud rfl (l_call ent69 (CallT.of_pure hk16) rfl ?_)
  clear hk16
  rintro vr O' ⟨N, rfl, bp, qb, m, rfl, rfl⟩
  refine TO.quiet (q_move rfl) (TO.quiet (q_extract (vs := _) rfl rfl) (TO.quiet (q_extract (vs := _) rfl rfl) ?_))
  refine TO.loud rfl (l_alloc inf79 rfl (fun z6 => ?_))
  refine TO.loud rfl (l_store_box (v := (.pointer (some ⟨bp, 0, none⟩))) (vs := [(.pointer (some ⟨bp, 0, none⟩))]) 0 inf79 rfl rfl rfl rfl rfl rfl (by simp [putL]) ?_)
  refine TO.quiet (q_assign rfl) ?_
  refine TO.nil (T.seq (T.seq (T.region ?_)))
  refine TO.quiet (q_move rfl) (TO.quiet (q_neq rfl rfl) ?_)
  refine TO.nil ?_
  refine T.cond0 rfl ?_
  refine T.skip (T.seq (T.region ?_))
  refine TO.quiet (q_fieldAddr Tryd.underlying25 rfl inf3 rfl rfl) (TO.quiet (q_load_box 8 Tryd.underlying3 rfl rfl rfl rfl) (TO.quiet (q_build (cs := [(.int .i64 a.vars), (.int .i64 0), (.slice none 0 0), (.slice none 0 0)]) plan25 inf25 (by kernel_rfl)) ?_))
  refine TO.loud rfl (l_alloc inf25 rfl (fun z7 => ?_))
  refine TO.loud rfl (l_store_box (v := (.agg #[(.int .i64 a.vars), (.int .i64 0), (.slice none 0 0), (.slice none 0 0)])) (vs := [(.int .i64 a.vars), (.int .i64 0), (.slice none 0 0), (.slice none 0 0)]) 0 inf25 rfl rfl rfl rfl rfl rfl (by simp [putL]) ?_)
  refine TO.nil (T.seq (T.seq ?_))
  refine T.nilRow 4 1 ?_
  refine T.nilRow 52 1 ?_
  refine T.region ?_
  refine TO.quiet (q_load_box 3 Tryd.underlying79 rfl rfl rfl rfl) ?_
  have hk27 := fun (w1 : World) (hI : Inv w [rowI none 0 52 1 (vals []), rowI none 0 4 1 (bools []), oI z7 25 [(.int .i64 a.vars), (.int .i64 0), (.slice none 0 0), (.slice none 0 0)], oI z6 79 [(.pointer (some ⟨bp, 0, none⟩))], oI bp 90 [(.int .i64 a.vars), (.int .i64 a.start), (.slice j.nb a.next.length j.nc), (.slice j.fb a.final.length j.fc), (.int .i64 b.vars), (.int .i64 b.start), (.slice k.nb b.next.length k.nc), (.slice k.fb b.final.length k.fc), (.slice (some ⟨qb, 0, none⟩) ([a.start.toNat * b.next.length + b.start.toNat].length) 1), (.map (some m))], rowI (some ⟨qb, 0, none⟩) 1 86 2 (prs b.next.length [a.start.toNat * b.next.length + b.start.toNat]), mapI pairV (fun n : Nat => Value.int .i64 (n : Int)) m (pmap b.next.length [a.start.toNat * b.next.length + b.start.toNat]), oI z5 29 [(.int .i64 0)], oI z4 25 [(.int .i64 0), (.int .i64 0), (.slice none 0 0), (.slice none 0 0)], oI z3 60 [(.func (.func g) #[] #[])], oI z2 25 (dC b k), oI z1 25 (dC a j)] w1) => pairsF w1 bp
  refine TO.loud rfl (l_call ent70 (CallT.of_pure hk27) rfl ?_)
  clear hk27
  rintro vr O' ⟨N, rfl, bP, rfl, rfl⟩
  refine TO.nil (T.block ?_)
  refine T.rangeFunc (first := []) (caps := [(.pointer (some ⟨bP, 0, none⟩))]) rfl ent87 (fun yl yq yhq => ?_)
  refine CallT.mono (CallT.sub (O' := oI bP 79 [(.pointer (some ⟨bp, 0, none⟩))] :: oI bp 90 [(.int .i64 a.vars), (.int .i64 a.start), (.slice j.nb a.next.length j.nc), (.slice j.fb a.final.length j.fc), (.int .i64 b.vars), (.int .i64 b.start), (.slice k.nb b.next.length k.nc), (.slice k.fb b.final.length k.fc), (.slice (some ⟨qb, 0, none⟩) ([a.start.toNat * b.next.length + b.start.toNat].length) 1), (.map (some m))] :: rowI (some ⟨qb, 0, none⟩) 1 86 2 (prs b.next.length [a.start.toNat * b.next.length + b.start.toNat]) :: mapI pairV (fun n : Nat => Value.int .i64 (n : Int)) m (pmap b.next.length [a.start.toNat * b.next.length + b.start.toNat]) :: (objI yl (lp yq none) :: [rowI none 0 52 1 (vals []), rowI none 0 4 1 (bools []), oI z7 25 [(.int .i64 a.vars), (.int .i64 0), (.slice none 0 0), (.slice none 0 0)], oI z6 79 [(.pointer (some ⟨bp, 0, none⟩))], oI z5 29 [(.int .i64 0)], oI z4 25 [(.int .i64 0), (.int .i64 0), (.slice none 0 0), (.slice none 0 0)], oI z3 60 [(.func (.func g) #[] #[])], oI z2 25 (dC b k), oI z1 25 (dC a j)])) (Sub.pick [1, 5, 5, 5, 0, 0, 0, 0, 0, 0, 0, 0, 0, 0] rfl) (pairs1 w f a b j k ha hb va vb hv L hL bP bp m (some ⟨qb, 0, none⟩) 1 (.func (.yield yl) #[] #[]) (fun i O => ∃ (nbm fbm : Option Addr) (ncm fcm n1 n2 : Nat) (qs : List Rec) (fs : List Bool), O = objI yl (lp yq none) :: ([rowI nbm ncm 52 1 (vals qs), rowI fbm fcm 4 1 (bools fs), oI z7 25 [(.int .i64 a.vars), (.int .i64 0), (.slice nbm n1 ncm), (.slice fbm n2 fcm)], oI z6 79 [(.pointer (some ⟨bp, 0, none⟩))], oI z5 29 [(.int .i64 0)], oI z4 25 [(.int .i64 0), (.int .i64 0), (.slice none 0 0), (.slice none 0 0)], oI z3 60 [(.func (.func g) #[] #[])], oI z2 25 (dC b k), oI z1 25 (dC a j)] ++ (itms 3 qs)) ∧ n1 = i ∧ n2 = i ∧ qs.length = i ∧ fs.length = i ∧ nums qs = ((order (prodD f a b)).take i).map (rnR (prodD f a b)) ∧ fs = ((order (prodD f a b)).take i).map (finN (prodD f a b))) (fun _ => False) ?_ _ ?_)) ?_
  · intro i o qb qc rb O hq hJ
    obtain ⟨nbm, fbm, ncm, fcm, n1, n2, qs, fs, rfl, hn1, hn2, hql, hfl, hqs, hfs⟩ := hJ
    refine CallV.yield yhq rfl rfl ?_
    refine T.sub (O' := ([rowI nbm ncm 52 1 (vals qs), rowI fbm fcm 4 1 (bools fs), oI z7 25 [(.int .i64 a.vars), (.int .i64 0), (.slice nbm n1 ncm), (.slice fbm n2 fcm)], oI z6 79 [(.pointer (some ⟨bp, 0, none⟩))], oI z5 29 [(.int .i64 0)], oI z4 25 [(.int .i64 0), (.int .i64 0), (.slice none 0 0), (.slice none 0 0)], oI z3 60 [(.func (.func g) #[] #[])], oI z2 25 (dC b k), oI z1 25 (dC a j), oI bp 90 [(.int .i64 a.vars), (.int .i64 a.start), (.slice j.nb a.next.length j.nc), (.slice j.fb a.final.length j.fc), (.int .i64 b.vars), (.int .i64 b.start), (.slice k.nb b.next.length k.nc), (.slice k.fb b.final.length k.fc), (.slice qb ((bfsN (prodD f a b) (i + 1)).length) qc), (.map (some m))], rowI qb qc 86 2 (prs b.next.length (bfsN (prodD f a b) (i + 1))), mapI pairV (fun n : Nat => Value.int .i64 (n : Int)) m (pmap b.next.length (bfsN (prodD f a b) (i + 1))), rowI (some ⟨rb, 0, none⟩) L 3 1 (ints (rnR (prodD f a b) o))] ++ itms 3 qs)) (by exact Sub.swap3 [rowI nbm ncm 52 1 (vals qs), rowI fbm fcm 4 1 (bools fs), oI z7 25 [(.int .i64 a.vars), (.int .i64 0), (.slice nbm n1 ncm), (.slice fbm n2 fcm)], oI z6 79 [(.pointer (some ⟨bp, 0, none⟩))], oI z5 29 [(.int .i64 0)], oI z4 25 [(.int .i64 0), (.int .i64 0), (.slice none 0 0), (.slice none 0 0)], oI z3 60 [(.func (.func g) #[] #[])], oI z2 25 (dC b k), oI z1 25 (dC a j)] [oI bp 90 [(.int .i64 a.vars), (.int .i64 a.start), (.slice j.nb a.next.length j.nc), (.slice j.fb a.final.length j.fc), (.int .i64 b.vars), (.int .i64 b.start), (.slice k.nb b.next.length k.nc), (.slice k.fb b.final.length k.fc), (.slice qb ((bfsN (prodD f a b) (i + 1)).length) qc), (.map (some m))], rowI qb qc 86 2 (prs b.next.length (bfsN (prodD f a b) (i + 1))), mapI pairV (fun n : Nat => Value.int .i64 (n : Int)) m (pmap b.next.length (bfsN (prodD f a b) (i + 1))), rowI (some ⟨rb, 0, none⟩) L 3 1 (ints (rnR (prodD f a b) o))] (itms 3 qs)) ?_
    have hbl := pr_bfs_len (f := f) va vb hv i
    have hil := (List.getElem?_eq_some_iff.1 hq).1
    have ho := (pr_bfs_ok (f := f) va vb hv i).2 o (List.mem_of_getElem? hq)
    obtain ⟨hs, ht⟩ := pr_split ho
    have hoa := bfs_at hq (by rw [prod_len]; omega)
    have hfa : (bools a.final)[o / b.next.length]? = some (.bool (finN a (o / b.next.length))) := by
      have hl : o / b.next.length < a.final.length := by rw [va.fin]; exact hs
      rw [bools_get hl]; unfold finN; rw [List.getD_eq_getElem?_getD, List.getElem?_eq_getElem hl]; rfl
    have hfb : (bools b.final)[o % b.next.length]? = some (.bool (finN b (o % b.next.length))) := by
      have hl : o % b.next.length < b.final.length := by rw [vb.fin]; exact ht
      rw [bools_get hl]; unfold finN; rw [List.getD_eq_getElem?_getD, List.getElem?_eq_getElem hl]; rfl
    have hrl : (rnR (prodD f a b) o).length = L := by unfold rnR; rw [List.length_map, renRow_length]; exact hL
    have hvq : vals (qs ++ [⟨some ⟨rb, 0, none⟩, L, rnR (prodD f a b) o⟩]) = vals qs ++ [.slice (some ⟨rb, 0, none⟩) L L] := by simp [Rec.val, hrl]
    have hbq : bools (fs ++ [f (finN a (o / b.next.length)) (finN b (o % b.next.length))]) = bools fs ++ [.bool (f (finN a (o / b.next.length)) (finN b (o % b.next.length)))] := by simp
    have hbl2 := pr_bfs_len (f := f) va vb hv (i + 1)
    have hlt9 : (bfsN (prodD f a b) (i + 1)).length ≤ 4096 := by omega
    refine T.seq (T.region ?_)
    refine TO.loud rfl (l_alloc inf86 rfl (fun z8 => ?_))
    refine TO.loud rfl (l_store_box (v := (.agg #[.int .i64 ((o / b.next.length : Nat) : Int), .int .i64 ((o % b.next.length : Nat) : Int)])) (vs := [.int .i64 ((o / b.next.length : Nat) : Int), .int .i64 ((o % b.next.length : Nat) : Int)]) 0 inf86 rfl rfl rfl rfl rfl rfl (by simp [putL]) ?_)
    refine TO.nil (T.region ?_)
    refine TO.quiet (q_assign rfl) ?_
    refine TO.nil (T.block (T.seq (T.seq (T.region ?_))))
    refine TO.quiet (q_load_box 4 Tryd.underlying79 rfl rfl rfl rfl) (TO.quiet (q_nilCheck rfl) (TO.quiet (q_fieldAddr Tryd.underlying90 rfl inf87 rfl rfl) (TO.quiet (q_load_box 10 Tryd.underlying87 rfl rfl rfl rfl) ?_)))
    refine TO.quiet (q_len Tryd.underlying87 rfl) (TO.quiet (QT.toB (q_gtr rfl rfl) (decide_eq_false (by omega))) ?_)
    refine TO.nil ?_
    refine T.cond0 rfl ?_
    refine T.skip ?_
    refine T.draws [oI z8 86 [.int .i64 ((o / b.next.length : Nat) : Int), .int .i64 ((o % b.next.length : Nat) : Int)], oI z7 25 [(.int .i64 a.vars), (.int .i64 0), (.slice nbm n1 ncm), (.slice fbm n2 fcm)], oI z6 79 [(.pointer (some ⟨bp, 0, none⟩))], oI z5 29 [(.int .i64 0)], oI z4 25 [(.int .i64 0), (.int .i64 0), (.slice none 0 0), (.slice none 0 0)], oI z3 60 [(.func (.func g) #[] #[])], oI z2 25 (dC b k), oI z1 25 (dC a j), oI bp 90 [(.int .i64 a.vars), (.int .i64 a.start), (.slice j.nb a.next.length j.nc), (.slice j.fb a.final.length j.fc), (.int .i64 b.vars), (.int .i64 b.start), (.slice k.nb b.next.length k.nc), (.slice k.fb b.final.length k.fc), (.slice qb ((bfsN (prodD f a b) (i + 1)).length) qc), (.map (some m))]] [(0, 0), (1, 0), (2, 0), (5, 0), (6, 0), (7, 0), (8, 0), (9, 0), (10, 0), (11, 0), (12, 0), (13, 0), (14, 0), (15, 0), (16, 0), (17, 0), (18, 0), (19, 0), (3, 1), (4, 1), (23, 0), (20, 1), (21, 1), (22, 1), (24, 2), (25, 2), (26, 2)] mixed (by kernel_rfl) (by exact Sub.k (.d (.d (.k (.k (.k (.k (.k (.k (.k (.k .z))))))))))) (fun _ _ _ h => h) ?_
    refine DO.quiet rfl (q_fieldAddr Tryd.underlying25 rfl inf22 rfl rfl) (DO.quiet rfl (q_load_box 1 Tryd.underlying22 rfl rfl rfl rfl) (DO.quiet rfl (q_move rfl) (DO.quiet rfl (q_fieldAddr Tryd.underlying25 rfl inf23 rfl rfl) ?_)))
    refine DO.quiet rfl (q_load_box 1 Tryd.underlying23 rfl rfl rfl rfl) (DO.quiet rfl (q_load_box 5 Tryd.underlying60 rfl rfl rfl rfl) (DO.quiet rfl (q_fieldAddr Tryd.underlying25 rfl inf23 rfl rfl) (DO.quiet rfl (q_load_box 7 Tryd.underlying23 rfl rfl rfl rfl) ?_)))
    refine DO.quiet rfl (q_fieldAddr Tryd.underlying86 rfl inf3 rfl rfl) (DO.quiet rfl (q_load_box 0 Tryd.underlying3 rfl rfl rfl rfl) (DO.quiet rfl (q_ix (i := (o / b.next.length)) Tryd.underlying23 inf4 rfl rfl (Sl.o ha.final) (by rw [va.fin]; exact hs) (by rw [List.length_map, va.fin]; exact hs)) (DO.quiet rfl (q_ld Tryd.underlying4 rfl rfl (Sl.o ha.final) hfa) ?_)))
    refine DO.quiet rfl (q_fieldAddr Tryd.underlying25 rfl inf23 rfl rfl) (DO.quiet rfl (q_load_box 6 Tryd.underlying23 rfl rfl rfl rfl) (DO.quiet rfl (q_fieldAddr Tryd.underlying86 rfl inf3 rfl rfl) (DO.quiet rfl (q_load_box 0 Tryd.underlying3 rfl rfl rfl rfl) ?_)))
    refine DO.quiet rfl (q_ix (i := (o % b.next.length)) Tryd.underlying23 inf4 rfl rfl (Sl.o hb.final) (by rw [vb.fin]; exact ht) (by rw [List.length_map, vb.fin]; exact ht)) (DO.quiet rfl (q_ld Tryd.underlying4 rfl rfl (Sl.o hb.final) hfb) ?_)
    refine DO.loud rfl rfl (l_build1 (v := (.slice (some ⟨rb, 0, none⟩) L L)) Tryd.underlying22 inf52 rfl rfl rfl (fun z9 => ⟨by exact Sub.d (.k (.d (.d (.k (.k (.k (.k (.k (.k (.k (.k .z))))))))))), ?_⟩))
    refine DO.loud rfl rfl (l_append 2 Tryd.underlying22 Tryd.underlying22 inf52 rfl rfl rfl rfl (by simp; omega) (by decide) (Src.row (j := 0) rfl (by simp)) (by simp [oneB]) (by omega) (by decide) (by decide) (fun z10 zc11 => ⟨by exact Sub.d (.k (.d (.d (.k (.k (.k (.k (.k (.k (.k (.k .z))))))))))), ?_⟩))
    refine DO.quiet rfl (q_fieldAddr Tryd.underlying25 rfl inf22 rfl rfl) ?_
    have hk57 := CallV.under (B := ([rowI (some ⟨z9, 0, none⟩) 1 52 1 [(.slice (some ⟨rb, 0, none⟩) L L)], oI z8 86 [.int .i64 ((o / b.next.length : Nat) : Int), .int .i64 ((o % b.next.length : Nat) : Int)], rowI z10 zc11 52 1 ((vals qs) ++ [(.slice (some ⟨rb, 0, none⟩) L L)]), rowI fbm fcm 4 1 (bools fs), oI z7 25 [(.int .i64 a.vars), (.int .i64 0), (.slice nbm n1 ncm), (.slice fbm n2 fcm)], oI z6 79 [(.pointer (some ⟨bp, 0, none⟩))], oI z5 29 [(.int .i64 0)], oI z4 25 [(.int .i64 0), (.int .i64 0), (.slice none 0 0), (.slice none 0 0)], oI z3 60 [(.func (.func g) #[] #[])], oI z2 25 (dC b k), oI z1 25 (dC a j), oI bp 90 [(.int .i64 a.vars), (.int .i64 a.start), (.slice j.nb a.next.length j.nc), (.slice j.fb a.final.length j.fc), (.int .i64 b.vars), (.int .i64 b.start), (.slice k.nb b.next.length k.nc), (.slice k.fb b.final.length k.fc), (.slice qb ((bfsN (prodD f a b) (i + 1)).length) qc), (.map (some m))], rowI qb qc 86 2 (prs b.next.length (bfsN (prodD f a b) (i + 1))), mapI pairV (fun n : Nat => Value.int .i64 (n : Int)) m (pmap b.next.length (bfsN (prodD f a b) (i + 1))), rowI (some ⟨rb, 0, none⟩) L 3 1 (ints (rnR (prodD f a b) o))] ++ itms 3 qs)) (O := ([rowI (some ⟨z9, 0, none⟩) 1 52 1 [(.slice (some ⟨rb, 0, none⟩) L L)], oI z8 86 [.int .i64 ((o / b.next.length : Nat) : Int), .int .i64 ((o % b.next.length : Nat) : Int)], rowI z10 zc11 52 1 ((vals qs) ++ [(.slice (some ⟨rb, 0, none⟩) L L)]), rowI fbm fcm 4 1 (bools fs), oI z7 25 [(.int .i64 a.vars), (.int .i64 0), (.slice nbm n1 ncm), (.slice fbm n2 fcm)], oI z6 79 [(.pointer (some ⟨bp, 0, none⟩))], oI z5 29 [(.int .i64 0)], oI z4 25 [(.int .i64 0), (.int .i64 0), (.slice none 0 0), (.slice none 0 0)], oI z3 60 [(.func (.func g) #[] #[])], oI z2 25 (dC b k), oI z1 25 (dC a j), oI bp 90 [(.int .i64 a.vars), (.int .i64 a.start), (.slice j.nb a.next.length j.nc), (.slice j.fb a.final.length j.fc), (.int .i64 b.vars), (.int .i64 b.start), (.slice k.nb b.next.length k.nc), (.slice k.fb b.final.length k.fc), (.slice qb ((bfsN (prodD f a b) (i + 1)).length) qc), (.map (some m))], rowI qb qc 86 2 (prs b.next.length (bfsN (prodD f a b) (i + 1))), mapI pairV (fun n : Nat => Value.int .i64 (n : Int)) m (pmap b.next.length (bfsN (prodD f a b) (i + 1))), rowI (some ⟨rb, 0, none⟩) L 3 1 (ints (rnR (prodD f a b) o))] ++ (itms 3 qs))) (hf w (finN a (o / b.next.length)) (finN b (o % b.next.length))) (by exact Sub.rf)
    refine DO.loud rfl rfl (l_callG hk57 rfl rfl ?_)
    clear hk57
    rintro vr O' ⟨A1, rfl, rfl, rfl⟩
    refine ⟨by exact Sub.d (.k (.d (.d (.k (.k (.k (.k (.k (.k (.k (.k .z))))))))))), ?_⟩
    refine DO.loud rfl rfl (l_build1 (v := .bool (f (finN a (o / b.next.length)) (finN b (o % b.next.length)))) Tryd.underlying23 inf4 rfl rfl rfl (fun z12 => ⟨by exact Sub.d (.d (.k (.d (.d (.k (.k (.k (.k (.k (.k (.k (.k .z)))))))))))), ?_⟩))
    refine DO.loud rfl rfl (l_append 4 Tryd.underlying23 Tryd.underlying23 inf4 rfl rfl rfl rfl (by simp; omega) (by decide) (Src.row (j := 0) rfl (by simp)) (by simp [oneB]) (by omega) (by decide) (by decide) (fun z13 zc14 => ⟨by exact Sub.d (.d (.k (.d (.d (.k (.k (.k (.k (.k (.k (.k (.k .z)))))))))))), ?_⟩))
    refine DO.last rfl rfl (l_store_box (v := (.slice z10 (n1 + 1) zc11)) (vs := [(.slice z10 (n1 + 1) zc11)]) 5 inf22 rfl rfl rfl rfl rfl rfl (by simp [putL]) ?_)
    refine DO.last rfl rfl (LT.of_quiet rfl rfl (q_fieldAddr Tryd.underlying25 rfl inf23 rfl rfl) ?_)
    refine DO.last rfl rfl (l_store_box (v := (.slice z13 (n2 + 1) zc14)) (vs := [(.slice z13 (n2 + 1) zc14)]) 5 inf23 rfl rfl rfl rfl rfl rfl (by simp [putL]) ?_)
    refine DO.sub (O' := ([rowI z10 zc11 52 1 ((vals qs) ++ [(.slice (some ⟨rb, 0, none⟩) L L)]), rowI z13 zc14 4 1 ((bools fs) ++ [.bool (f (finN a (o / b.next.length)) (finN b (o % b.next.length)))]), oI z7 25 [(.int .i64 a.vars), (.int .i64 0), (.slice z10 (n1 + 1) zc11), (.slice z13 (n2 + 1) zc14)], oI z6 79 [(.pointer (some ⟨bp, 0, none⟩))], oI z5 29 [(.int .i64 0)], oI z4 25 [(.int .i64 0), (.int .i64 0), (.slice none 0 0), (.slice none 0 0)], oI z3 60 [(.func (.func g) #[] #[])], oI z2 25 (dC b k), oI z1 25 (dC a j), rowI (some ⟨rb, 0, none⟩) L 3 1 (ints (rnR (prodD f a b) o)), oI bp 90 [(.int .i64 a.vars), (.int .i64 a.start), (.slice j.nb a.next.length j.nc), (.slice j.fb a.final.length j.fc), (.int .i64 b.vars), (.int .i64 b.start), (.slice k.nb b.next.length k.nc), (.slice k.fb b.final.length k.fc), (.slice qb ((bfsN (prodD f a b) (i + 1)).length) qc), (.map (some m))], rowI qb qc 86 2 (prs b.next.length (bfsN (prodD f a b) (i + 1))), mapI pairV (fun n : Nat => Value.int .i64 (n : Int)) m (pmap b.next.length (bfsN (prodD f a b) (i + 1)))] ++ itms 3 qs)) (by exact Sub.d (.d (.d (.k (.k (.k (.k (.k (.k (.k (.k (.k (.pull [oI bp 90 [(.int .i64 a.vars), (.int .i64 a.start), (.slice j.nb a.next.length j.nc), (.slice j.fb a.final.length j.fc), (.int .i64 b.vars), (.int .i64 b.start), (.slice k.nb b.next.length k.nc), (.slice k.fb b.final.length k.fc), (.slice qb ((bfsN (prodD f a b) (i + 1)).length) qc), (.map (some m))], rowI qb qc 86 2 (prs b.next.length (bfsN (prodD f a b) (i + 1))), mapI pairV (fun n : Nat => Value.int .i64 (n : Int)) m (pmap b.next.length (bfsN (prodD f a b) (i + 1)))] _ (.k (.k (.k .rf)))))))))))))))) ?_
    refine DO.sub (O' := (([rowI z10 zc11 52 1 (vals (qs ++ [⟨some ⟨rb, 0, none⟩, L, rnR (prodD f a b) o⟩])), rowI z13 zc14 4 1 (bools (fs ++ [f (finN a (o / b.next.length)) (finN b (o % b.next.length))])), oI z7 25 [(.int .i64 a.vars), (.int .i64 0), (.slice z10 (n1 + 1) zc11), (.slice z13 (n2 + 1) zc14)], oI z6 79 [(.pointer (some ⟨bp, 0, none⟩))], oI z5 29 [(.int .i64 0)], oI z4 25 [(.int .i64 0), (.int .i64 0), (.slice none 0 0), (.slice none 0 0)], oI z3 60 [(.func (.func g) #[] #[])], oI z2 25 (dC b k), oI z1 25 (dC a j)] ++ itms 3 (qs ++ [⟨some ⟨rb, 0, none⟩, L, rnR (prodD f a b) o⟩])) ++ [oI bp 90 [(.int .i64 a.vars), (.int .i64 a.start), (.slice j.nb a.next.length j.nc), (.slice j.fb a.final.length j.fc), (.int .i64 b.vars), (.int .i64 b.start), (.slice k.nb b.next.length k.nc), (.slice k.fb b.final.length k.fc), (.slice qb ((bfsN (prodD f a b) (i + 1)).length) qc), (.map (some m))], rowI qb qc 86 2 (prs b.next.length (bfsN (prodD f a b) (i + 1))), mapI pairV (fun n : Nat => Value.int .i64 (n : Int)) m (pmap b.next.length (bfsN (prodD f a b) (i + 1)))])) (by rw [hvq, hbq]; exact Sub.fold [rowI z10 zc11 52 1 ((vals qs) ++ [(.slice (some ⟨rb, 0, none⟩) L L)]), rowI z13 zc14 4 1 ((bools fs) ++ [.bool (f (finN a (o / b.next.length)) (finN b (o % b.next.length)))]), oI z7 25 [(.int .i64 a.vars), (.int .i64 0), (.slice z10 (n1 + 1) zc11), (.slice z13 (n2 + 1) zc14)], oI z6 79 [(.pointer (some ⟨bp, 0, none⟩))], oI z5 29 [(.int .i64 0)], oI z4 25 [(.int .i64 0), (.int .i64 0), (.slice none 0 0), (.slice none 0 0)], oI z3 60 [(.func (.func g) #[] #[])], oI z2 25 (dC b k), oI z1 25 (dC a j)] (rowI (some ⟨rb, 0, none⟩) L 3 1 (ints (rnR (prodD f a b) o))) [oI bp 90 [(.int .i64 a.vars), (.int .i64 a.start), (.slice j.nb a.next.length j.nc), (.slice j.fb a.final.length j.fc), (.int .i64 b.vars), (.int .i64 b.start), (.slice k.nb b.next.length k.nc), (.slice k.fb b.final.length k.fc), (.slice qb ((bfsN (prodD f a b) (i + 1)).length) qc), (.map (some m))], rowI qb qc 86 2 (prs b.next.length (bfsN (prodD f a b) (i + 1))), mapI pairV (fun n : Nat => Value.int .i64 (n : Int)) m (pmap b.next.length (bfsN (prodD f a b) (i + 1)))] (itms 3 qs) _ (itms_snoc 3 qs ⟨some ⟨rb, 0, none⟩, L, rnR (prodD f a b) o⟩)) ?_
    refine DO.done ?_
    refine .inl ⟨rfl, _, rfl, z10, z13, zc11, zc14, n1 + 1, n2 + 1, qs ++ [⟨some ⟨rb, 0, none⟩, L, rnR (prodD f a b) o⟩], fs ++ [f (finN a (o / b.next.length)) (finN b (o % b.next.length))], rfl, by omega, by omega, by simp [hql], by simp [hfl], ?_, ?_⟩
    · rw [take_at hoa, List.map_append]
      show List.map Rec.xs (qs ++ [_]) = _
      rw [List.map_append, show List.map Rec.xs qs = _ from hqs]; rfl
    · rw [take_at hoa, List.map_append, hfs, ← pr_fin_at (f := f) ho]; rfl
  · refine ⟨none, none, 0, 0, 0, 0, [], [], rfl, rfl, rfl, rfl, rfl, by simp, by simp⟩
  rintro v O' (⟨N, qbF, qcF, O2, rfl, hN, nbm, fbm, ncm, fcm, n1, n2, qs, fs, rfl, hn1, hn2, hql, hfl, hqs, hfs⟩ | hF)
  rotate_left
  · exact hF.elim
  refine ⟨none, _, rfl, ?_⟩
  refine T.seq ?_
  refine T.sub (O' := ([rowI nbm ncm 52 1 (vals qs), rowI fbm fcm 4 1 (bools fs), oI z7 25 [(.int .i64 a.vars), (.int .i64 0), (.slice nbm n1 ncm), (.slice fbm n2 fcm)], oI z6 79 [(.pointer (some ⟨bp, 0, none⟩))], oI z5 29 [(.int .i64 0)], oI z4 25 [(.int .i64 0), (.int .i64 0), (.slice none 0 0), (.slice none 0 0)], oI z3 60 [(.func (.func g) #[] #[])], oI z2 25 (dC b k), oI z1 25 (dC a j)] ++ itms 3 qs)) (Sub.of (List.sublist_append_left _ _)) ?_
  have hor := pr_stop va vb hv hN
  have hol : (order (prodD f a b)).length = N := by rw [hor]; exact hN
  have e1 : nums qs = (renum (prodD f a b)).next := by rw [hqs, ← hol, List.take_length]; exact (renum_rows _).symm
  have e2 : fs = (renum (prodD f a b)).final := by rw [hfs, ← hol, List.take_length]; rfl
  obtain rfl : n1 = (renum (prodD f a b)).next.length := by rw [renum_rows, List.length_map]; omega
  obtain rfl : n2 = (renum (prodD f a b)).final.length := by rw [renum_fins, List.length_map]; omega
  subst e2
  have vD := prod_valid (f := f) va vb hv hn
  have vR := renum_valid vD
  refine T.sub (O' := ([rowI nbm ncm 52 1 (vals qs), rowI fbm fcm 4 1 (bools (renum (prodD f a b)).final), oI z7 25 [(.int .i64 (renum (prodD f a b)).vars), (.int .i64 (renum (prodD f a b)).start), (.slice nbm ((renum (prodD f a b)).next.length) ncm), (.slice fbm ((renum (prodD f a b)).final.length) fcm)], oI z6 79 [(.pointer (some ⟨bp, 0, none⟩))], oI z5 29 [(.int .i64 0)], oI z4 25 [(.int .i64 0), (.int .i64 0), (.slice none 0 0), (.slice none 0 0)], oI z3 60 [(.func (.func g) #[] #[])], oI z2 25 (dC b k), oI z1 25 (dC a j)] ++ itms 3 qs)) (by exact Sub.rf) ?_
  refine T.region ?_
  refine TO.quiet (q_load_boxAgg 2 Tryd.underlying25 rfl inf25 rfl rfl rfl) ?_
  have hk63 := fun (w1 : World) (hI : Inv w ([rowI nbm ncm 52 1 (vals qs), rowI fbm fcm 4 1 (bools (renum (prodD f a b)).final), oI z7 25 [(.int .i64 (renum (prodD f a b)).vars), (.int .i64 (renum (prodD f a b)).start), (.slice nbm ((renum (prodD f a b)).next.length) ncm), (.slice fbm ((renum (prodD f a b)).final.length) fcm)], oI z6 79 [(.pointer (some ⟨bp, 0, none⟩))], oI z5 29 [(.int .i64 0)], oI z4 25 [(.int .i64 0), (.int .i64 0), (.slice none 0 0), (.slice none 0 0)], oI z3 60 [(.func (.func g) #[] #[])], oI z2 25 (dC b k), oI z1 25 (dC a j)] ++ (itms 3 qs)) w1) => minKE w1 (renum (prodD f a b)) ⟨nbm, ncm, fbm, fcm, qs⟩ (show At w1 (renum (prodD f a b)) ⟨nbm, ncm, fbm, fcm, qs⟩ from ⟨hI.slOf (List.mem_of_getElem? (i := 0) rfl), e1 ▸ hI.recs (fun q hq => List.mem_append_right _ (List.mem_map_of_mem (f := Rec.itm 3) hq)), hI.slOf (List.mem_of_getElem? (i := 1) rfl)⟩) vR (by rw [renum_rows, List.length_map]; exact hN9) (minD_renum vD)
  refine TO.loud rfl (l_call ent21 (CallT.of_pure hk63) rfl ?_)
  clear hk63
  rintro vr O' ⟨N9, rfl, k', rfl, rfl⟩
  refine TO.quiet (q_extract (vs := _) rfl rfl) (TO.quiet (q_extract (vs := _) rfl rfl) ?_)
  refine TO.loud rfl (l_store_box (v := (.agg #[(.int .i64 (minD (prodD f a b)).vars), (.int .i64 (minD (prodD f a b)).start), (.slice k'.nb ((minD (prodD f a b)).next.length) k'.nc), (.slice k'.fb ((minD (prodD f a b)).final.length) k'.fc)])) (vs := [(.int .i64 (minD (prodD f a b)).vars), (.int .i64 (minD (prodD f a b)).start), (.slice k'.nb ((minD (prodD f a b)).next.length) k'.nc), (.slice k'.fb ((minD (prodD f a b)).final.length) k'.fc)]) 6 inf25 rfl rfl rfl rfl rfl rfl (by simp [putL]) ?_)
  refine TO.loud rfl (l_store_box (v := .int .i64 0) (vs := [(.int .i64 0)]) 5 inf29 rfl rfl rfl rfl rfl rfl (by simp [putL]) ?_)
  refine TO.nil (T.ret (Res.drop ?_))
  refine Res.cell2a (i := 6) (j := 5) Tryd.results43 Tryd.underlying25 rfl inf25 Tryd.underlying29 rfl rfl rfl rfl rfl rfl ?_
  exact ⟨[dI 52 4 3 (minD (prodD f a b)) k'], (by exact Sub.k .z), k', rfl, rfl⟩
set_option maxHeartbeats 1000000 in
set_option maxRecDepth 20000 in
theorem combineBig (w : World) (a b : DFA) (j k : DK) (ha : At w a j) (hb : At w b k) (va : Valid a) (vb : Valid b) (hv : a.vars = b.vars) (f : Bool → Bool → Bool) (g : Nat) (hf : ∀ (base : World) (x y : Bool), CallV Tryd.prog base (.func (.func g) #[] #[]) [.bool x, .bool y] [] (fun v O' => v = .bool (f x y) ∧ O' = [])) (hbig : 4096 < (order (prodD f a b)).length) :
    PureT Tryd.prog 43 [dV a j, dV b k, .func (.func g) #[] #[]] w fun v N => v = .tuple #[dV noD ⟨none, 0, none, 0, []⟩, .int .i64 10] ∧ N = [] := by
  refine CallT.enter Tryd.func43 rfl Tryd.ntmps43 rfl ?_
  have h4 : a.next.length * b.next.length ≤ 4096 * 4096 := Nat.mul_le_mul va.n4 vb.n4
  obtain ⟨L, hL⟩ : ∃ L, 2 ^ a.vars.toNat = L := ⟨_, rfl⟩
  have hw : L ≤ 64 := by rw [← hL]; exact va.width
  refine T.seq (T.region ?_)
  refine TO.loud rfl (l_box (v := (dV a j)) (cs := (dC a j)) rfl rfl (fun z1 => ?_))
  refine TO.loud rfl (l_box (v := (dV b k)) (cs := (dC b k)) rfl rfl (fun z2 => ?_))
  refine TO.loud rfl (l_box (v := (.func (.func g) #[] #[])) (cs := [(.func (.func g) #[] #[])]) rfl rfl (fun z3 => ?_))
  refine TO.loud rfl (l_alloc inf25 rfl (fun z4 => ?_))
  refine TO.loud rfl (l_alloc inf29 rfl (fun z5 => ?_))
  refine TO.nil (T.seq (T.region ?_))
  refine TO.quiet (q_load_boxAgg 4 Tryd.underlying25 rfl inf25 rfl rfl rfl) (TO.quiet (q_load_boxAgg 3 Tryd.underlying25 rfl inf25 rfl rfl rfl) ?_)
  have hk16 := fun (w1 : World) (hI : Inv w [oI z5 29 [(.int .i64 0)], oI z4 25 [(.int .i64 0), (.int .i64 0), (.slice none 0 0), (.slice none 0 0)], oI z3 60 [(.func (.func g) #[] #[])], oI z2 25 (dC b k), oI z1 25 (dC a j)] w1) => beginOk w1 a b j k (hI.atB ha) (hI.atB hb) va vb hv
  refine TO.loud rfl (l_call ent69 (CallT.of_pure hk16) rfl ?_)
  clear hk16
  rintro vr O' ⟨N, rfl, bp, qb, m, rfl, rfl⟩
  refine TO.quiet (q_move rfl) (TO.quiet (q_extract (vs := _) rfl rfl) (TO.quiet (q_extract (vs := _) rfl rfl) ?_))
  refine TO.loud rfl (l_alloc inf79 rfl (fun z6 => ?_))
  refine TO.loud rfl (l_store_box (v := (.pointer (some ⟨bp, 0, none⟩))) (vs := [(.pointer (some ⟨bp, 0, none⟩))]) 0 inf79 rfl rfl rfl rfl rfl rfl (by simp [putL]) ?_)
  refine TO.quiet (q_assign rfl) ?_
  refine TO.nil (T.seq (T.seq (T.region ?_)))
  refine TO.quiet (q_move rfl) (TO.quiet (q_neq rfl rfl) ?_)
  refine TO.nil ?_
  refine T.cond0 rfl ?_
  refine T.skip (T.seq (T.region ?_))
  refine TO.quiet (q_fieldAddr Tryd.underlying25 rfl inf3 rfl rfl) (TO.quiet (q_load_box 8 Tryd.underlying3 rfl rfl rfl rfl) (TO.quiet (q_build (cs := [(.int .i64 a.vars), (.int .i64 0), (.slice none 0 0), (.slice none 0 0)]) plan25 inf25 (by kernel_rfl)) ?_))
  refine TO.loud rfl (l_alloc inf25 rfl (fun z7 => ?_))
  refine TO.loud rfl (l_store_box (v := (.agg #[(.int .i64 a.vars), (.int .i64 0), (.slice none 0 0), (.slice none 0 0)])) (vs := [(.int .i64 a.vars), (.int .i64 0), (.slice none 0 0), (.slice none 0 0)]) 0 inf25 rfl rfl rfl rfl rfl rfl (by simp [putL]) ?_)
  refine TO.nil (T.seq (T.seq ?_))
  refine T.nilRow 4 1 ?_
  refine T.nilRow 52 1 ?_
  refine T.region ?_
  refine TO.quiet (q_load_box 3 Tryd.underlying79 rfl rfl rfl rfl) ?_
  have hk27 := fun (w1 : World) (hI : Inv w [rowI none 0 52 1 (vals []), rowI none 0 4 1 (bools []), oI z7 25 [(.int .i64 a.vars), (.int .i64 0), (.slice none 0 0), (.slice none 0 0)], oI z6 79 [(.pointer (some ⟨bp, 0, none⟩))], oI bp 90 [(.int .i64 a.vars), (.int .i64 a.start), (.slice j.nb a.next.length j.nc), (.slice j.fb a.final.length j.fc), (.int .i64 b.vars), (.int .i64 b.start), (.slice k.nb b.next.length k.nc), (.slice k.fb b.final.length k.fc), (.slice (some ⟨qb, 0, none⟩) ([a.start.toNat * b.next.length + b.start.toNat].length) 1), (.map (some m))], rowI (some ⟨qb, 0, none⟩) 1 86 2 (prs b.next.length [a.start.toNat * b.next.length + b.start.toNat]), mapI pairV (fun n : Nat => Value.int .i64 (n : Int)) m (pmap b.next.length [a.start.toNat * b.next.length + b.start.toNat]), oI z5 29 [(.int .i64 0)], oI z4 25 [(.int .i64 0), (.int .i64 0), (.slice none 0 0), (.slice none 0 0)], oI z3 60 [(.func (.func g) #[] #[])], oI z2 25 (dC b k), oI z1 25 (dC a j)] w1) => pairsF w1 bp
  refine TO.loud rfl (l_call ent70 (CallT.of_pure hk27) rfl ?_)
  clear hk27
  rintro vr O' ⟨N, rfl, bP, rfl, rfl⟩
  refine TO.nil (T.block ?_)
  refine T.rangeFunc (first := []) (caps := [(.pointer (some ⟨bP, 0, none⟩))]) rfl ent87 (fun yl yq yhq => ?_)
  refine CallT.mono (CallT.sub (O' := oI bP 79 [(.pointer (some ⟨bp, 0, none⟩))] :: oI bp 90 [(.int .i64 a.vars), (.int .i64 a.start), (.slice j.nb a.next.length j.nc), (.slice j.fb a.final.length j.fc), (.int .i64 b.vars), (.int .i64 b.start), (.slice k.nb b.next.length k.nc), (.slice k.fb b.final.length k.fc), (.slice (some ⟨qb, 0, none⟩) ([a.start.toNat * b.next.length + b.start.toNat].length) 1), (.map (some m))] :: rowI (some ⟨qb, 0, none⟩) 1 86 2 (prs b.next.length [a.start.toNat * b.next.length + b.start.toNat]) :: mapI pairV (fun n : Nat => Value.int .i64 (n : Int)) m (pmap b.next.length [a.start.toNat * b.next.length + b.start.toNat]) :: (objI yl (lp yq none) :: [rowI none 0 52 1 (vals []), rowI none 0 4 1 (bools []), oI z7 25 [(.int .i64 a.vars), (.int .i64 0), (.slice none 0 0), (.slice none 0 0)], oI z6 79 [(.pointer (some ⟨bp, 0, none⟩))], oI z5 29 [(.int .i64 0)], oI z4 25 [(.int .i64 0), (.int .i64 0), (.slice none 0 0), (.slice none 0 0)], oI z3 60 [(.func (.func g) #[] #[])], oI z2 25 (dC b k), oI z1 25 (dC a j)])) (Sub.pick [1, 5, 5, 5, 0, 0, 0, 0, 0, 0, 0, 0, 0, 0] rfl) (pairs1 w f a b j k ha hb va vb hv L hL bP bp m (some ⟨qb, 0, none⟩) 1 (.func (.yield yl) #[] #[]) (fun i O => ∃ (nbm fbm : Option Addr) (ncm fcm n1 n2 : Nat) (qs : List Rec) (fs : List Bool), O = objI yl (lp yq none) :: ([rowI nbm ncm 52 1 (vals qs), rowI fbm fcm 4 1 (bools fs), oI z7 25 [(.int .i64 a.vars), (.int .i64 0), (.slice nbm n1 ncm), (.slice fbm n2 fcm)], oI z6 79 [(.pointer (some ⟨bp, 0, none⟩))], oI z5 29 [(.int .i64 0)], oI z4 25 [(.int .i64 0), (.int .i64 0), (.slice none 0 0), (.slice none 0 0)], oI z3 60 [(.func (.func g) #[] #[])], oI z2 25 (dC b k), oI z1 25 (dC a j)] ++ (itms 3 qs)) ∧ n1 = i ∧ n2 = i ∧ qs.length = i ∧ fs.length = i ∧ nums qs = ((order (prodD f a b)).take i).map (rnR (prodD f a b)) ∧ fs = ((order (prodD f a b)).take i).map (finN (prodD f a b)) ∧ (bfsN (prodD f a b) i).length ≤ 4096) (fun O => O = objI yl (lp yq (some .ret)) :: [oI z5 29 [(.int .i64 10)], oI z4 25 [(.int .i64 0), (.int .i64 0), (.slice none 0 0), (.slice none 0 0)]]) ?_ _ ?_)) ?_
  · intro i o qb qc rb O hq hJ
    obtain ⟨nbm, fbm, ncm, fcm, n1, n2, qs, fs, rfl, hn1, hn2, hql, hfl, hqs, hfs, hle⟩ := hJ
    refine CallV.yield yhq rfl rfl ?_
    refine T.sub (O' := ([rowI nbm ncm 52 1 (vals qs), rowI fbm fcm 4 1 (bools fs), oI z7 25 [(.int .i64 a.vars), (.int .i64 0), (.slice nbm n1 ncm), (.slice fbm n2 fcm)], oI z6 79 [(.pointer (some ⟨bp, 0, none⟩))], oI z5 29 [(.int .i64 0)], oI z4 25 [(.int .i64 0), (.int .i64 0), (.slice none 0 0), (.slice none 0 0)], oI z3 60 [(.func (.func g) #[] #[])], oI z2 25 (dC b k), oI z1 25 (dC a j), oI bp 90 [(.int .i64 a.vars), (.int .i64 a.start), (.slice j.nb a.next.length j.nc), (.slice j.fb a.final.length j.fc), (.int .i64 b.vars), (.int .i64 b.start), (.slice k.nb b.next.length k.nc), (.slice k.fb b.final.length k.fc), (.slice qb ((bfsN (prodD f a b) (i + 1)).length) qc), (.map (some m))], rowI qb qc 86 2 (prs b.next.length (bfsN (prodD f a b) (i + 1))), mapI pairV (fun n : Nat => Value.int .i64 (n : Int)) m (pmap b.next.length (bfsN (prodD f a b) (i + 1))), rowI (some ⟨rb, 0, none⟩) L 3 1 (ints (rnR (prodD f a b) o))] ++ itms 3 qs)) (by exact Sub.swap3 [rowI nbm ncm 52 1 (vals qs), rowI fbm fcm 4 1 (bools fs), oI z7 25 [(.int .i64 a.vars), (.int .i64 0), (.slice nbm n1 ncm), (.slice fbm n2 fcm)], oI z6 79 [(.pointer (some ⟨bp, 0, none⟩))], oI z5 29 [(.int .i64 0)], oI z4 25 [(.int .i64 0), (.int .i64 0), (.slice none 0 0), (.slice none 0 0)], oI z3 60 [(.func (.func g) #[] #[])], oI z2 25 (dC b k), oI z1 25 (dC a j)] [oI bp 90 [(.int .i64 a.vars), (.int .i64 a.start), (.slice j.nb a.next.length j.nc), (.slice j.fb a.final.length j.fc), (.int .i64 b.vars), (.int .i64 b.start), (.slice k.nb b.next.length k.nc), (.slice k.fb b.final.length k.fc), (.slice qb ((bfsN (prodD f a b) (i + 1)).length) qc), (.map (some m))], rowI qb qc 86 2 (prs b.next.length (bfsN (prodD f a b) (i + 1))), mapI pairV (fun n : Nat => Value.int .i64 (n : Int)) m (pmap b.next.length (bfsN (prodD f a b) (i + 1))), rowI (some ⟨rb, 0, none⟩) L 3 1 (ints (rnR (prodD f a b) o))] (itms 3 qs)) ?_
    have hbl := pr_bfs_len (f := f) va vb hv i
    have hil := (List.getElem?_eq_some_iff.1 hq).1
    have ho := (pr_bfs_ok (f := f) va vb hv i).2 o (List.mem_of_getElem? hq)
    obtain ⟨hs, ht⟩ := pr_split ho
    have hoa := bfs_at hq (by rw [prod_len]; omega)
    have hfa : (bools a.final)[o / b.next.length]? = some (.bool (finN a (o / b.next.length))) := by
      have hl : o / b.next.length < a.final.length := by rw [va.fin]; exact hs
      rw [bools_get hl]; unfold finN; rw [List.getD_eq_getElem?_getD, List.getElem?_eq_getElem hl]; rfl
    have hfb : (bools b.final)[o % b.next.length]? = some (.bool (finN b (o % b.next.length))) := by
      have hl : o % b.next.length < b.final.length := by rw [vb.fin]; exact ht
      rw [bools_get hl]; unfold finN; rw [List.getD_eq_getElem?_getD, List.getElem?_eq_getElem hl]; rfl
    have hrl : (rnR (prodD f a b) o).length = L := by unfold rnR; rw [List.length_map, renRow_length]; exact hL
    have hvq : vals (qs ++ [⟨some ⟨rb, 0, none⟩, L, rnR (prodD f a b) o⟩]) = vals qs ++ [.slice (some ⟨rb, 0, none⟩) L L] := by simp [Rec.val, hrl]
    have hbq : bools (fs ++ [f (finN a (o / b.next.length)) (finN b (o % b.next.length))]) = bools fs ++ [.bool (f (finN a (o / b.next.length)) (finN b (o % b.next.length)))] := by simp
    have hbl2 := pr_bfs_len (f := f) va vb hv (i + 1)
    refine T.seq (T.region ?_)
    refine TO.loud rfl (l_alloc inf86 rfl (fun z8 => ?_))
    refine TO.loud rfl (l_store_box (v := (.agg #[.int .i64 ((o / b.next.length : Nat) : Int), .int .i64 ((o % b.next.length : Nat) : Int)])) (vs := [.int .i64 ((o / b.next.length : Nat) : Int), .int .i64 ((o % b.next.length : Nat) : Int)]) 0 inf86 rfl rfl rfl rfl rfl rfl (by simp [putL]) ?_)
    refine TO.nil (T.region ?_)
    refine TO.quiet (q_assign rfl) ?_
    refine TO.nil (T.block (T.seq (T.seq (T.region ?_))))
    refine TO.quiet (q_load_box 4 Tryd.underlying79 rfl rfl rfl rfl) (TO.quiet (q_nilCheck rfl) (TO.quiet (q_fieldAddr Tryd.underlying90 rfl inf87 rfl rfl) (TO.quiet (q_load_box 10 Tryd.underlying87 rfl rfl rfl rfl) ?_)))
    refine TO.quiet (q_len Tryd.underlying87 rfl) (TO.quiet (q_gtr rfl rfl) ?_)
    refine TO.nil ?_
    refine T.condP rfl (fun hc => ?_) (fun hc => ?_)
    · have hlt35 : (bfsN (prodD f a b) (i + 1)).length > 4096 := by omega
      refine T.seq (T.region ?_)
      refine TO.quiet (q_build plan25 inf25 rfl) ?_
      refine TO.loud rfl (l_store_box (v := (.agg #[(.int .i64 0), (.int .i64 0), (.slice none 0 0), (.slice none 0 0)])) (vs := [(.int .i64 0), (.int .i64 0), (.slice none 0 0), (.slice none 0 0)]) 6 inf25 rfl rfl rfl rfl rfl rfl (by simp [putL]) ?_)
      refine TO.loud rfl (l_store_box (v := .int .i64 10) (vs := [(.int .i64 10)]) 5 inf29 rfl rfl rfl rfl rfl rfl (by simp [putL]) ?_)
      refine TO.sub (O' := [oI z5 29 [(.int .i64 10)], oI z4 25 [(.int .i64 0), (.int .i64 0), (.slice none 0 0), (.slice none 0 0)]]) (by exact Sub.d (.d (.d (.d (.d (.k (.k .z))))))) ?_
      refine TO.nil (T.ret ?_)
      exact .inr ⟨rfl, rfl⟩
    have hge35 : ¬ (bfsN (prodD f a b) (i + 1)).length > 4096 := by omega
    refine T.skip ?_
    refine T.draws [oI z8 86 [.int .i64 ((o / b.next.length : Nat) : Int), .int .i64 ((o % b.next.length : Nat) : Int)], oI z7 25 [(.int .i64 a.vars), (.int .i64 0), (.slice nbm n1 ncm), (.slice fbm n2 fcm)], oI z6 79 [(.pointer (some ⟨bp, 0, none⟩))], oI z5 29 [(.int .i64 0)], oI z4 25 [(.int .i64 0), (.int .i64 0), (.slice none 0 0), (.slice none 0 0)], oI z3 60 [(.func (.func g) #[] #[])], oI z2 25 (dC b k), oI z1 25 (dC a j), oI bp 90 [(.int .i64 a.vars), (.int .i64 a.start), (.slice j.nb a.next.length j.nc), (.slice j.fb a.final.length j.fc), (.int .i64 b.vars), (.int .i64 b.start), (.slice k.nb b.next.length k.nc), (.slice k.fb b.final.length k.fc), (.slice qb ((bfsN (prodD f a b) (i + 1)).length) qc), (.map (some m))]] [(0, 0), (1, 0), (2, 0), (5, 0), (6, 0), (7, 0), (8, 0), (9, 0), (10, 0), (11, 0), (12, 0), (13, 0), (14, 0), (15, 0), (16, 0), (17, 0), (18, 0), (19, 0), (3, 1), (4, 1), (23, 0), (20, 1), (21, 1), (22, 1), (24, 2), (25, 2), (26, 2)] mixed (by kernel_rfl) (by exact Sub.k (.d (.d (.k (.k (.k (.k (.k (.k (.k (.k .z))))))))))) (fun _ _ _ h => h) ?_
    refine DO.quiet rfl (q_fieldAddr Tryd.underlying25 rfl inf22 rfl rfl) (DO.quiet rfl (q_load_box 1 Tryd.underlying22 rfl rfl rfl rfl) (DO.quiet rfl (q_move rfl) (DO.quiet rfl (q_fieldAddr Tryd.underlying25 rfl inf23 rfl rfl) ?_)))
    refine DO.quiet rfl (q_load_box 1 Tryd.underlying23 rfl rfl rfl rfl) (DO.quiet rfl (q_load_box 5 Tryd.underlying60 rfl rfl rfl rfl) (DO.quiet rfl (q_fieldAddr Tryd.underlying25 rfl inf23 rfl rfl) (DO.quiet rfl (q_load_box 7 Tryd.underlying23 rfl rfl rfl rfl) ?_)))
    refine DO.quiet rfl (q_fieldAddr Tryd.underlying86 rfl inf3 rfl rfl) (DO.quiet rfl (q_load_box 0 Tryd.underlying3 rfl rfl rfl rfl) (DO.quiet rfl (q_ix (i := (o / b.next.length)) Tryd.underlying23 inf4 rfl rfl (Sl.o ha.final) (by rw [va.fin]; exact hs) (by rw [List.length_map, va.fin]; exact hs)) (DO.quiet rfl (q_ld Tryd.underlying4 rfl rfl (Sl.o ha.final) hfa) ?_)))
    refine DO.quiet rfl (q_fieldAddr Tryd.underlying25 rfl inf23 rfl rfl) (DO.quiet rfl (q_load_box 6 Tryd.underlying23 rfl rfl rfl rfl) (DO.quiet rfl (q_fieldAddr Tryd.underlying86 rfl inf3 rfl rfl) (DO.quiet rfl (q_load_box 0 Tryd.underlying3 rfl rfl rfl rfl) ?_)))
    refine DO.quiet rfl (q_ix (i := (o % b.next.length)) Tryd.underlying23 inf4 rfl rfl (Sl.o hb.final) (by rw [vb.fin]; exact ht) (by rw [List.length_map, vb.fin]; exact ht)) (DO.quiet rfl (q_ld Tryd.underlying4 rfl rfl (Sl.o hb.final) hfb) ?_)
    refine DO.loud rfl rfl (l_build1 (v := (.slice (some ⟨rb, 0, none⟩) L L)) Tryd.underlying22 inf52 rfl rfl rfl (fun z9 => ⟨by exact Sub.d (.k (.d (.d (.k (.k (.k (.k (.k (.k (.k (.k .z))))))))))), ?_⟩))
    refine DO.loud rfl rfl (l_append 2 Tryd.underlying22 Tryd.underlying22 inf52 rfl rfl rfl rfl (by simp; omega) (by decide) (Src.row (j := 0) rfl (by simp)) (by simp [oneB]) (by omega) (by decide) (by decide) (fun z10 zc11 => ⟨by exact Sub.d (.k (.d (.d (.k (.k (.k (.k (.k (.k (.k (.k .z))))))))))), ?_⟩))
    refine DO.quiet rfl (q_fieldAddr Tryd.underlying25 rfl inf22 rfl rfl) ?_
    have hk57 := CallV.under (B := ([rowI (some ⟨z9, 0, none⟩) 1 52 1 [(.slice (some ⟨rb, 0, none⟩) L L)], oI z8 86 [.int .i64 ((o / b.next.length : Nat) : Int), .int .i64 ((o % b.next.length : Nat) : Int)], rowI z10 zc11 52 1 ((vals qs) ++ [(.slice (some ⟨rb, 0, none⟩) L L)]), rowI fbm fcm 4 1 (bools fs), oI z7 25 [(.int .i64 a.vars), (.int .i64 0), (.slice nbm n1 ncm), (.slice fbm n2 fcm)], oI z6 79 [(.pointer (some ⟨bp, 0, none⟩))], oI z5 29 [(.int .i64 0)], oI z4 25 [(.int .i64 0), (.int .i64 0), (.slice none 0 0), (.slice none 0 0)], oI z3 60 [(.func (.func g) #[] #[])], oI z2 25 (dC b k), oI z1 25 (dC a j), oI bp 90 [(.int .i64 a.vars), (.int .i64 a.start), (.slice j.nb a.next.length j.nc), (.slice j.fb a.final.length j.fc), (.int .i64 b.vars), (.int .i64 b.start), (.slice k.nb b.next.length k.nc), (.slice k.fb b.final.length k.fc), (.slice qb ((bfsN (prodD f a b) (i + 1)).length) qc), (.map (some m))], rowI qb qc 86 2 (prs b.next.length (bfsN (prodD f a b) (i + 1))), mapI pairV (fun n : Nat => Value.int .i64 (n : Int)) m (pmap b.next.length (bfsN (prodD f a b) (i + 1))), rowI (some ⟨rb, 0, none⟩) L 3 1 (ints (rnR (prodD f a b) o))] ++ itms 3 qs)) (O := ([rowI (some ⟨z9, 0, none⟩) 1 52 1 [(.slice (some ⟨rb, 0, none⟩) L L)], oI z8 86 [.int .i64 ((o / b.next.length : Nat) : Int), .int .i64 ((o % b.next.length : Nat) : Int)], rowI z10 zc11 52 1 ((vals qs) ++ [(.slice (some ⟨rb, 0, none⟩) L L)]), rowI fbm fcm 4 1 (bools fs), oI z7 25 [(.int .i64 a.vars), (.int .i64 0), (.slice nbm n1 ncm), (.slice fbm n2 fcm)], oI z6 79 [(.pointer (some ⟨bp, 0, none⟩))], oI z5 29 [(.int .i64 0)], oI z4 25 [(.int .i64 0), (.int .i64 0), (.slice none 0 0), (.slice none 0 0)], oI z3 60 [(.func (.func g) #[] #[])], oI z2 25 (dC b k), oI z1 25 (dC a j), oI bp 90 [(.int .i64 a.vars), (.int .i64 a.start), (.slice j.nb a.next.length j.nc), (.slice j.fb a.final.length j.fc), (.int .i64 b.vars), (.int .i64 b.start), (.slice k.nb b.next.length k.nc), (.slice k.fb b.final.length k.fc), (.slice qb ((bfsN (prodD f a b) (i + 1)).length) qc), (.map (some m))], rowI qb qc 86 2 (prs b.next.length (bfsN (prodD f a b) (i + 1))), mapI pairV (fun n : Nat => Value.int .i64 (n : Int)) m (pmap b.next.length (bfsN (prodD f a b) (i + 1))), rowI (some ⟨rb, 0, none⟩) L 3 1 (ints (rnR (prodD f a b) o))] ++ (itms 3 qs))) (hf w (finN a (o / b.next.length)) (finN b (o % b.next.length))) (by exact Sub.rf)
    refine DO.loud rfl rfl (l_callG hk57 rfl rfl ?_)
    clear hk57
    rintro vr O' ⟨A1, rfl, rfl, rfl⟩
    refine ⟨by exact Sub.d (.k (.d (.d (.k (.k (.k (.k (.k (.k (.k (.k .z))))))))))), ?_⟩
    refine DO.loud rfl rfl (l_build1 (v := .bool (f (finN a (o / b.next.length)) (finN b (o % b.next.length)))) Tryd.underlying23 inf4 rfl rfl rfl (fun z12 => ⟨by exact Sub.d (.d (.k (.d (.d (.k (.k (.k (.k (.k (.k (.k (.k .z)))))))))))), ?_⟩))
    refine DO.loud rfl rfl (l_append 4 Tryd.underlying23 Tryd.underlying23 inf4 rfl rfl rfl rfl (by simp; omega) (by decide) (Src.row (j := 0) rfl (by simp)) (by simp [oneB]) (by omega) (by decide) (by decide) (fun z13 zc14 => ⟨by exact Sub.d (.d (.k (.d (.d (.k (.k (.k (.k (.k (.k (.k (.k .z)))))))))))), ?_⟩))
    refine DO.last rfl rfl (l_store_box (v := (.slice z10 (n1 + 1) zc11)) (vs := [(.slice z10 (n1 + 1) zc11)]) 5 inf22 rfl rfl rfl rfl rfl rfl (by simp [putL]) ?_)
    refine DO.last rfl rfl (LT.of_quiet rfl rfl (q_fieldAddr Tryd.underlying25 rfl inf23 rfl rfl) ?_)
    refine DO.last rfl rfl (l_store_box (v := (.slice z13 (n2 + 1) zc14)) (vs := [(.slice z13 (n2 + 1) zc14)]) 5 inf23 rfl rfl rfl rfl rfl rfl (by simp [putL]) ?_)
    refine DO.sub (O' := ([rowI z10 zc11 52 1 ((vals qs) ++ [(.slice (some ⟨rb, 0, none⟩) L L)]), rowI z13 zc14 4 1 ((bools fs) ++ [.bool (f (finN a (o / b.next.length)) (finN b (o % b.next.length)))]), oI z7 25 [(.int .i64 a.vars), (.int .i64 0), (.slice z10 (n1 + 1) zc11), (.slice z13 (n2 + 1) zc14)], oI z6 79 [(.pointer (some ⟨bp, 0, none⟩))], oI z5 29 [(.int .i64 0)], oI z4 25 [(.int .i64 0), (.int .i64 0), (.slice none 0 0), (.slice none 0 0)], oI z3 60 [(.func (.func g) #[] #[])], oI z2 25 (dC b k), oI z1 25 (dC a j), rowI (some ⟨rb, 0, none⟩) L 3 1 (ints (rnR (prodD f a b) o)), oI bp 90 [(.int .i64 a.vars), (.int .i64 a.start), (.slice j.nb a.next.length j.nc), (.slice j.fb a.final.length j.fc), (.int .i64 b.vars), (.int .i64 b.start), (.slice k.nb b.next.length k.nc), (.slice k.fb b.final.length k.fc), (.slice qb ((bfsN (prodD f a b) (i + 1)).length) qc), (.map (some m))], rowI qb qc 86 2 (prs b.next.length (bfsN (prodD f a b) (i + 1))), mapI pairV (fun n : Nat => Value.int .i64 (n : Int)) m (pmap b.next.length (bfsN (prodD f a b) (i + 1)))] ++ itms 3 qs)) (by exact Sub.d (.d (.d (.k (.k (.k (.k (.k (.k (.k (.k (.k (.pull [oI bp 90 [(.int .i64 a.vars), (.int .i64 a.start), (.slice j.nb a.next.length j.nc), (.slice j.fb a.final.length j.fc), (.int .i64 b.vars), (.int .i64 b.start), (.slice k.nb b.next.length k.nc), (.slice k.fb b.final.length k.fc), (.slice qb ((bfsN (prodD f a b) (i + 1)).length) qc), (.map (some m))], rowI qb qc 86 2 (prs b.next.length (bfsN (prodD f a b) (i + 1))), mapI pairV (fun n : Nat => Value.int .i64 (n : Int)) m (pmap b.next.length (bfsN (prodD f a b) (i + 1)))] _ (.k (.k (.k .rf)))))))))))))))) ?_
    refine DO.sub (O' := (([rowI z10 zc11 52 1 (vals (qs ++ [⟨some ⟨rb, 0, none⟩, L, rnR (prodD f a b) o⟩])), rowI z13 zc14 4 1 (bools (fs ++ [f (finN a (o / b.next.length)) (finN b (o % b.next.length))])), oI z7 25 [(.int .i64 a.vars), (.int .i64 0), (.slice z10 (n1 + 1) zc11), (.slice z13 (n2 + 1) zc14)], oI z6 79 [(.pointer (some ⟨bp, 0, none⟩))], oI z5 29 [(.int .i64 0)], oI z4 25 [(.int .i64 0), (.int .i64 0), (.slice none 0 0), (.slice none 0 0)], oI z3 60 [(.func (.func g) #[] #[])], oI z2 25 (dC b k), oI z1 25 (dC a j)] ++ itms 3 (qs ++ [⟨some ⟨rb, 0, none⟩, L, rnR (prodD f a b) o⟩])) ++ [oI bp 90 [(.int .i64 a.vars), (.int .i64 a.start), (.slice j.nb a.next.length j.nc), (.slice j.fb a.final.length j.fc), (.int .i64 b.vars), (.int .i64 b.start), (.slice k.nb b.next.length k.nc), (.slice k.fb b.final.length k.fc), (.slice qb ((bfsN (prodD f a b) (i + 1)).length) qc), (.map (some m))], rowI qb qc 86 2 (prs b.next.length (bfsN (prodD f a b) (i + 1))), mapI pairV (fun n : Nat => Value.int .i64 (n : Int)) m (pmap b.next.length (bfsN (prodD f a b) (i + 1)))])) (by rw [hvq, hbq]; exact Sub.fold [rowI z10 zc11 52 1 ((vals qs) ++ [(.slice (some ⟨rb, 0, none⟩) L L)]), rowI z13 zc14 4 1 ((bools fs) ++ [.bool (f (finN a (o / b.next.length)) (finN b (o % b.next.length)))]), oI z7 25 [(.int .i64 a.vars), (.int .i64 0), (.slice z10 (n1 + 1) zc11), (.slice z13 (n2 + 1) zc14)], oI z6 79 [(.pointer (some ⟨bp, 0, none⟩))], oI z5 29 [(.int .i64 0)], oI z4 25 [(.int .i64 0), (.int .i64 0), (.slice none 0 0), (.slice none 0 0)], oI z3 60 [(.func (.func g) #[] #[])], oI z2 25 (dC b k), oI z1 25 (dC a j)] (rowI (some ⟨rb, 0, none⟩) L 3 1 (ints (rnR (prodD f a b) o))) [oI bp 90 [(.int .i64 a.vars), (.int .i64 a.start), (.slice j.nb a.next.length j.nc), (.slice j.fb a.final.length j.fc), (.int .i64 b.vars), (.int .i64 b.start), (.slice k.nb b.next.length k.nc), (.slice k.fb b.final.length k.fc), (.slice qb ((bfsN (prodD f a b) (i + 1)).length) qc), (.map (some m))], rowI qb qc 86 2 (prs b.next.length (bfsN (prodD f a b) (i + 1))), mapI pairV (fun n : Nat => Value.int .i64 (n : Int)) m (pmap b.next.length (bfsN (prodD f a b) (i + 1)))] (itms 3 qs) _ (itms_snoc 3 qs ⟨some ⟨rb, 0, none⟩, L, rnR (prodD f a b) o⟩)) ?_
    refine DO.done ?_
    refine .inl ⟨rfl, _, rfl, z10, z13, zc11, zc14, n1 + 1, n2 + 1, qs ++ [⟨some ⟨rb, 0, none⟩, L, rnR (prodD f a b) o⟩], fs ++ [f (finN a (o / b.next.length)) (finN b (o % b.next.length))], rfl, by omega, by omega, by simp [hql], by simp [hfl], ?_, ?_, by omega⟩
    · rw [take_at hoa, List.map_append]
      show List.map Rec.xs (qs ++ [_]) = _
      rw [List.map_append, show List.map Rec.xs qs = _ from hqs]; rfl
    · rw [take_at hoa, List.map_append, hfs, ← pr_fin_at (f := f) ho]; rfl
  · refine ⟨none, none, 0, 0, 0, 0, [], [], rfl, rfl, rfl, rfl, rfl, by simp, by simp, by simp [bfsN]⟩
  rintro v O' (⟨N, qbF, qcF, O2, rfl, hN, nbm, fbm, ncm, fcm, n1, n2, qs, fs, rfl, hn1, hn2, hql, hfl, hqs, hfs, hle⟩ | rfl)
  · exact absurd hbig (by rw [pr_stop va vb hv hN]; omega)
  refine ⟨some .ret, _, rfl, ?_⟩
  refine Res.drop ?_
  refine Res.cell2a (i := 1) (j := 0) Tryd.results43 Tryd.underlying25 rfl inf25 Tryd.underlying29 rfl rfl rfl rfl rfl rfl ?_
  exact ⟨[], Sub.z, rfl, rfl⟩
end Go.Proofs.YtdaapdamcekkgaaDoor

namespace Go.Lx
open Go.RowKit
set_option linter.unusedVariables false
def opB (op : Int) : Bool → Bool → Bool := if op = 0 then andB else if op = 1 then orB else if op = 2 then xorB else minusB
theorem wrongD_self {d : DFA} : wrongD d d = checkD d := by
  unfold wrongD
  by_cases h : checkD d = 0 <;> simp [h]
theorem orderNot {d : DFA} (hv : Valid d) (hn : d.next.length * d.next.length ≤ 4096) : (order (prodD notB d d)).length ≤ d.next.length :=
  pr_order_fact hv hv rfl hn hv rfl (Det.refl d) (Det.refl d)
def sinkD (m : DFA) : DFA := ⟨m.vars, m.start, m.next ++ [List.replicate (2 ^ m.vars.toNat) (m.next.length : Int)], m.final ++ [false]⟩
theorem sinkD_both (m : DFA) : both m (stayD m.vars false) = sinkD m := by
  unfold both stayD sinkD
  simp
theorem sinkD_len (m : DFA) : (sinkD m).next.length = m.next.length + 1 := by simp [sinkD]
theorem sinkD_flen (m : DFA) : (sinkD m).final.length = m.final.length + 1 := by simp [sinkD]
theorem sinkD_valid {m : DFA} (hm : Valid m) (hn : m.next.length + 1 ≤ 4096) : Valid (sinkD m) := by
  rw [← sinkD_both]
  exact both_valid hm (stay_valid hm.v0 hm.v6 false) rfl hn
theorem sink_least {m : DFA} (hm : Valid m) (hn : m.next.length + 1 ≤ 4096) {r : Option (List Nat)} (h : TellA (sinkD m) m.start (m.next.length : Int) r) : LeastA m r := by
  have hv := sinkD_valid hm hn
  have e0 : eD (sinkD m) m.start (m.next.length : Int) = 0 := eD_zero.2 ⟨hv, hm.s0, by rw [sinkD_len]; have := hm.s1; omega, by omega, by rw [sinkD_len]; omega⟩
  unfold TellA at h
  rw [if_pos e0, Int.toNat_natCast, ← sinkD_both] at h
  exact tell_least hm hn h
theorem sink_eD {m : DFA} (hm : Valid m) (hn : m.next.length + 1 ≤ 4096) : eD (sinkD m) m.start (m.next.length : Int) = 0 :=
  eD_zero.2 ⟨sinkD_valid hm hn, hm.s0, by rw [sinkD_len]; have := hm.s1; omega, by omega, by rw [sinkD_len]; omega⟩
def InclA (a b : DFA) (r : Option (List Nat)) : Prop := if wrongD a b = 0 then LeastA (opD minusB a b) r else r = none
theorem InclA.unique {a b : DFA} (hn : wrongD a b = 0 → a.next.length * b.next.length ≤ 4096) {r s : Option (List Nat)} (h : InclA a b r) (h2 : InclA a b s) : r = s := by
  unfold InclA at h h2
  by_cases hw : wrongD a b = 0
  · rw [if_pos hw] at h h2
    obtain ⟨va, vb, hv⟩ := wrongD_zero.1 hw
    exact h.unique (opD_valid va vb hv (hn hw)) h2
  · rw [if_neg hw] at h h2; rw [h, h2]
theorem InclA.ok {a b : DFA} (hw : wrongD a b = 0) {r : Option (List Nat)} : InclA a b r ↔ LeastA (opD minusB a b) r := by unfold InclA; rw [if_pos hw]
theorem InclA.of_prod {a b : DFA} (hw : wrongD a b = 0) (hn : a.next.length * b.next.length ≤ 4096) {r : Option (List Nat)} (h : LeastA (prodD minusB a b) r) : InclA a b r := by
  obtain ⟨va, vb, hv⟩ := wrongD_zero.1 hw
  rw [InclA.ok hw]
  exact LeastA.congr (d := prodD minusB a b) (e := opD minusB a b) rfl (fun w hwd => (minD_acc (prod_valid va vb hv hn) hwd).symm) h
def eqlA (a b : DFA) : Bool := decide (wrongD a b = 0) && (decide ((opD xorB a b).next.length = 1) && !finN (opD xorB a b) 0)
def allR : DFA → List DFA → DFA × Nat
  | d, [] => (d, 0)
  | d, x :: l => if wrongD d x = 0 then allR (opD andB d x) l else (noD, wrongD d x)
def AllOk : DFA → List DFA → Prop
  | _, [] => True
  | d, x :: l => wrongD d x = 0 → d.next.length * x.next.length ≤ 64 ∧ AllOk (opD andB d x) l
def allV (v : Int) (l : List DFA) : DFA × Nat := if 0 ≤ v ∧ v ≤ 6 then allR (stayD v true) l else (noD, 7)
theorem allR_at {d : DFA} {l : List DFA} {i : Nat} (h : i < l.length) : allR d (l.drop i) = if wrongD d l[i] = 0 then allR (opD andB d l[i]) (l.drop (i + 1)) else (noD, wrongD d l[i]) := by
  rw [List.drop_eq_getElem_cons h]; rfl
theorem allR_end {d : DFA} {l : List DFA} {i : Nat} (h : l.length ≤ i) : allR d (l.drop i) = (d, 0) := by
  rw [List.drop_eq_nil_of_le h]; rfl
theorem AllOk.at {d : DFA} {l : List DFA} {i : Nat} (h : i < l.length) (ha : AllOk d (l.drop i)) (hw : wrongD d l[i] = 0) : d.next.length * l[i].next.length ≤ 64 ∧ AllOk (opD andB d l[i]) (l.drop (i + 1)) := by
  rw [List.drop_eq_getElem_cons h] at ha
  exact ha hw
abbrev k00 : DK := ⟨none, 0, none, 0, []⟩
theorem T.nilD {P : Program} {r : Option Nat} {base : World} {n : Nat} {c : Code} {Q : Post} {ρ : Env} {O : List Item} (II Bo I : TypeId) (h : T P r base n c Q ρ (dI II Bo I noD k00 :: O)) : T P r base n c Q ρ O :=
  T.nilRow Bo 1 (T.nilRow II 1 (T.pack (φ := nums k00.qs = noD.next) (L := [rowI none 0 II 1 [], rowI none 0 Bo 1 []] ++ []) (M := O) rfl h))
theorem CallT.nilD {P : Program} {base : World} {f : FuncId} {args : List Value} {O : List Item} {R : Value → List Item → Prop} (II Bo I : TypeId) (h : CallT P base f args O R) : CallT P base f args O (fun v O' => ∃ O2, O' = dI II Bo I noD k00 :: O2 ∧ R v O2) :=
  (CallT.addNil II 1 (CallT.addNil Bo 1 h)).packR fun v O' hR => by
    obtain ⟨O2, rfl, O3, rfl, h3⟩ := hR
    exact ⟨nums k00.qs = noD.next, [rowI Option.none 0 II 1 [], rowI Option.none 0 Bo 1 []] ++ [], O3, rfl, rfl, O3, rfl, h3⟩
theorem stay_nums (v : Int) (b : Option Addr) (f : Bool) : nums [⟨b, 2 ^ v.toNat, List.replicate (2 ^ v.toNat) 0⟩] = (stayD v f).next := rfl
theorem eqlA_ok {a b : DFA} (h : wrongD a b = 0) : eqlA a b = (decide ((opD xorB a b).next.length = 1) && !finN (opD xorB a b) 0) := by unfold eqlA; rw [decide_eq_true h]; rfl
theorem eqlA_bad {a b : DFA} (h : wrongD a b ≠ 0) : eqlA a b = false := by unfold eqlA; rw [decide_eq_false h]; rfl
theorem Sub.foldN (A : List Item) (x : Item) (S S' : List Item) (h : S' = S ++ [x]) : Sub (A ++ S') ((A ++ [x]) ++ S) := by
  have := Sub.fold A x [] S S' h
  rwa [List.append_nil] at this
theorem prRow_len (a b : DFA) (s t : Nat) : (prRow a b s t).length = letN a := by unfold prRow; simp
theorem prRow_at {a b : DFA} {s t x : Nat} (h : x < letN a) : (prRow a b s t)[x]? = some ((toN a s x * b.next.length + toN b t x : Nat) : Int) := by unfold prRow; rw [List.getElem?_map, List.getElem?_range h]; rfl
theorem prNext_len (a b : DFA) : (prNext a b).length = a.next.length * b.next.length := by unfold prNext; simp
theorem prFin_len (f : Bool → Bool → Bool) (a b : DFA) : (prFin f a b).length = a.next.length * b.next.length := by unfold prFin; simp
theorem prNext_at {a b : DFA} {s t : Nat} (hs : s < a.next.length) (ht : t < b.next.length) : (prNext a b)[s * b.next.length + t]? = some (prRow a b s t) := by
  obtain ⟨h1, h2⟩ := pr_div (s := s) ht
  unfold prNext; rw [List.getElem?_map, List.getElem?_range (pr_lt hs ht)]; simp only [Option.map_some, h1, h2]
theorem prFin_at {f : Bool → Bool → Bool} {a b : DFA} {s t : Nat} (hs : s < a.next.length) (ht : t < b.next.length) : (prFin f a b)[s * b.next.length + t]? = some (f (finN a s) (finN b t)) := by
  obtain ⟨h1, h2⟩ := pr_div (s := s) ht
  unfold prFin; rw [List.getElem?_map, List.getElem?_range (pr_lt hs ht)]; simp only [Option.map_some, h1, h2]
theorem finN_at {d : DFA} (hv : Valid d) {s : Nat} (hs : s < d.next.length) : (bools d.final)[s]? = some (.bool (finN d s)) := by
  have hl : s < d.final.length := by rw [hv.fin]; exact hs
  rw [bools_get hl]; unfold finN; rw [List.getD_eq_getElem?_getD, List.getElem?_eq_getElem hl]; rfl
theorem toN_at {d : DFA} (hv : Valid d) {s x : Nat} (hs : s < d.next.length) (hx : x < 2 ^ d.vars.toNat) : (ints d.next[s])[x]? = some (.int .i64 ((toN d s x : Nat) : Int)) := by
  obtain ⟨_, _, h2, e⟩ := hv.toN_lt hs hx
  rw [ints_get h2, e]
theorem flipV {d : DFA} (hn : Valid d → d.next.length * d.next.length ≤ 4096) (hv : Valid d) : minV (flipD d) = opV notB d d := by
  rw [minV_valid (flip_valid hv), opV_ok (wrongD_zero.2 ⟨hv, hv, rfl⟩)]
  exact notD_flip hv (hn hv)
end Go.Lx

namespace Go.Proofs.YtdaapdamcekkgaaDoor
open Go.Lx Go.RowKit
set_option linter.unusedVariables false
set_option linter.unusedSimpArgs false
set_option maxRecDepth 20000 in
theorem combineA (w : World) (a b : DFA) (j k : DK) (ha : At w a j) (hb : At w b k) (haa : a.next.length < 9223372036854775807) (haar : ∀ r ∈ a.next, r.length < 9223372036854775807) (haaf : a.final.length < 9223372036854775807) (hbb : b.next.length < 9223372036854775807) (hbbr : ∀ r ∈ b.next, r.length < 9223372036854775807) (hbbf : b.final.length < 9223372036854775807) (f : Bool → Bool → Bool) (g : Nat) (hf : ∀ (base : World) (x y : Bool), CallV Tryd.prog base (.func (.func g) #[] #[]) [.bool x, .bool y] [] (fun v O' => v = .bool (f x y) ∧ O' = [])) (hN : wrongD a b = 0 → a.next.length * b.next.length ≤ 4096 ∧ (order (prodD f a b)).length < 100) :
    PureT Tryd.prog 43 [dV a j, dV b k, .func (.func g) #[] #[]] w fun v N => ∃ k' : DK, v = .tuple #[dV (opV f a b) k', .int .i64 (wrongD a b : Int)] ∧ N = [dI 52 4 3 (opV f a b) k'] := by
  by_cases he : wrongD a b = 0
  · obtain ⟨va, vb, hv⟩ := wrongD_zero.1 he
    rw [opV_ok he, he]
    exact combineOk w a b j k ha hb va vb hv f g hf (hN he).1 (hN he).2
  · rw [opV_bad he]
    refine CallT.dk (g := fun x => .tuple #[x, .int .i64 (wrongD a b : Int)]) ((CallT.addNil 52 1 (CallT.addNil 4 1 (combineBad w a b j k ha hb haa haar haaf hbb hbbr hbbf g he))).mono ?_)
    rintro v N ⟨O2, rfl, O3, rfl, rfl, rfl⟩
    exact ⟨none, 0, none, 0, [], rfl, rfl, rfl⟩
set_option maxHeartbeats 1000000 in
set_option maxRecDepth 20000 in
theorem notC0 (w : World) (a : DFA) (j : DK) (ha : At w a j) (haa : a.next.length < 9223372036854775807) (haar : ∀ r ∈ a.next, r.length < 9223372036854775807) (haaf : a.final.length < 9223372036854775807) (hN : wrongD a a = 0 → a.next.length * a.next.length ≤ 4096 ∧ (order (prodD notB a a)).length < 100) :
    PureT Tryd.prog 14 [dV a j] w fun v N => ∃ k' : DK, v = .tuple #[dV (opV notB a a) k', .int .i64 (wrongD a a : Int)] ∧ N = [dI 52 4 3 (opV notB a a) k'] := by
  refine CallT.enter Tryd.func14 rfl Tryd.ntmps14 rfl ?_
  refine T.seq (T.region ?_)
  refine TO.loud rfl (l_box (v := (dV a j)) (cs := (dC a j)) rfl rfl (fun bx1 => ?_))
  refine TO.loud rfl (l_alloc inf25 rfl (fun bx2 => ?_))
  refine TO.quiet (q_assign rfl) ?_
  refine TO.nil (T.seq (T.region ?_))
  refine TO.quiet (q_load_boxAgg 1 Tryd.underlying25 rfl inf25 rfl rfl rfl) (TO.quiet (q_load_boxAgg 1 Tryd.underlying25 rfl inf25 rfl rfl rfl) ?_)
  have hk6 := fun (w1 : World) (hI : Inv w [oI bx2 25 [(.int .i64 0), (.int .i64 0), (.slice none 0 0), (.slice none 0 0)], oI bx1 25 (dC a j)] w1) => combineA w1 a a j j (hI.atB ha) (hI.atB ha) haa haar haaf haa haar haaf notB 44 notFV hN
  refine TO.loud rfl (l_call ent43 (CallT.of_pure hk6) rfl ?_)
  clear hk6
  rintro vr O' ⟨N, rfl, k', rfl, rfl⟩
  refine TO.quiet (q_extract (vs := _) rfl rfl) (TO.quiet (q_extract (vs := _) rfl rfl) ?_)
  refine TO.loud rfl (l_store_box (v := (dV (opV notB a a) k')) (vs := (dC (opV notB a a) k')) 1 inf25 rfl rfl rfl rfl rfl rfl (by simp [putL]) ?_)
  refine TO.quiet (q_assign rfl) ?_
  refine TO.nil (T.ret (Res.drop ?_))
  refine Res.cell1b (.int .i64 (wrongD a a : Int)) (i := 1) Tryd.results14 Tryd.underlying25 rfl inf25 rfl rfl rfl rfl ?_
  exact ⟨[dI 52 4 3 (opV notB a a) k'], (by exact Sub.k .z), k', rfl, rfl⟩
theorem notC (w : World) (a : DFA) (j : DK) (ha : At w a j) (haa : a.next.length < 9223372036854775807) (haar : ∀ r ∈ a.next, r.length < 9223372036854775807) (haaf : a.final.length < 9223372036854775807) (hN : Valid a → a.next.length ≤ 64) :
    PureT Tryd.prog 14 [dV a j] w fun v N => ∃ k' : DK, v = .tuple #[dV (opV notB a a) k', .int .i64 (checkD a : Int)] ∧ N = [dI 52 4 3 (opV notB a a) k'] := by
  have h := notC0 w a j ha haa haar haaf (fun hw => by
    have hv := (wrongD_zero.1 hw).1
    have h64 := hN hv
    have h2 : a.next.length * a.next.length ≤ 64 * 64 := Nat.mul_le_mul h64 h64
    have := orderNot hv (by omega)
    exact ⟨by omega, by omega⟩)
  rwa [wrongD_self] at h
set_option maxHeartbeats 1000000 in
set_option maxRecDepth 20000 in
theorem andC (w : World) (a b : DFA) (j k : DK) (ha : At w a j) (hb : At w b k) (haa : a.next.length < 9223372036854775807) (haar : ∀ r ∈ a.next, r.length < 9223372036854775807) (haaf : a.final.length < 9223372036854775807) (hbb : b.next.length < 9223372036854775807) (hbbr : ∀ r ∈ b.next, r.length < 9223372036854775807) (hbbf : b.final.length < 9223372036854775807) (hN : wrongD a b = 0 → a.next.length * b.next.length ≤ 4096 ∧ (order (prodD andB a b)).length < 100) :
    PureT Tryd.prog 22 [dV a j, dV b k] w fun v N => ∃ k' : DK, v = .tuple #[dV (opV andB a b) k', .int .i64 (wrongD a b : Int)] ∧ N = [dI 52 4 3 (opV andB a b) k'] := by
  refine CallT.enter Tryd.func22 rfl Tryd.ntmps22 rfl ?_
  refine T.seq (T.region ?_)
  refine TO.loud rfl (l_box (v := (dV a j)) (cs := (dC a j)) rfl rfl (fun bx1 => ?_))
  refine TO.loud rfl (l_box (v := (dV b k)) (cs := (dC b k)) rfl rfl (fun bx2 => ?_))
  refine TO.loud rfl (l_alloc inf25 rfl (fun bx3 => ?_))
  refine TO.quiet (q_assign rfl) ?_
  refine TO.nil (T.seq (T.region ?_))
  refine TO.quiet (q_load_boxAgg 2 Tryd.underlying25 rfl inf25 rfl rfl rfl) (TO.quiet (q_load_boxAgg 1 Tryd.underlying25 rfl inf25 rfl rfl rfl) ?_)
  have hk8 := fun (w1 : World) (hI : Inv w [oI bx3 25 [(.int .i64 0), (.int .i64 0), (.slice none 0 0), (.slice none 0 0)], oI bx2 25 (dC b k), oI bx1 25 (dC a j)] w1) => combineA w1 a b j k (hI.atB ha) (hI.atB hb) haa haar haaf hbb hbbr hbbf andB 56 andFV hN
  refine TO.loud rfl (l_call ent43 (CallT.of_pure hk8) rfl ?_)
  clear hk8
  rintro vr O' ⟨N, rfl, k', rfl, rfl⟩
  refine TO.quiet (q_extract (vs := _) rfl rfl) (TO.quiet (q_extract (vs := _) rfl rfl) ?_)
  refine TO.loud rfl (l_store_box (v := (dV (opV andB a b) k')) (vs := (dC (opV andB a b) k')) 1 inf25 rfl rfl rfl rfl rfl rfl (by simp [putL]) ?_)
  refine TO.quiet (q_assign rfl) ?_
  refine TO.nil (T.ret (Res.drop ?_))
  refine Res.cell1b (.int .i64 (wrongD a b : Int)) (i := 1) Tryd.results22 Tryd.underlying25 rfl inf25 rfl rfl rfl rfl ?_
  exact ⟨[dI 52 4 3 (opV andB a b) k'], (by exact Sub.k .z), k', rfl, rfl⟩
set_option maxHeartbeats 1000000 in
set_option maxRecDepth 20000 in
theorem orC (w : World) (a b : DFA) (j k : DK) (ha : At w a j) (hb : At w b k) (haa : a.next.length < 9223372036854775807) (haar : ∀ r ∈ a.next, r.length < 9223372036854775807) (haaf : a.final.length < 9223372036854775807) (hbb : b.next.length < 9223372036854775807) (hbbr : ∀ r ∈ b.next, r.length < 9223372036854775807) (hbbf : b.final.length < 9223372036854775807) (hN : wrongD a b = 0 → a.next.length * b.next.length ≤ 4096 ∧ (order (prodD orB a b)).length < 100) :
    PureT Tryd.prog 23 [dV a j, dV b k] w fun v N => ∃ k' : DK, v = .tuple #[dV (opV orB a b) k', .int .i64 (wrongD a b : Int)] ∧ N = [dI 52 4 3 (opV orB a b) k'] := by
  refine CallT.enter Tryd.func23 rfl Tryd.ntmps23 rfl ?_
  refine T.seq (T.region ?_)
  refine TO.loud rfl (l_box (v := (dV a j)) (cs := (dC a j)) rfl rfl (fun bx1 => ?_))
  refine TO.loud rfl (l_box (v := (dV b k)) (cs := (dC b k)) rfl rfl (fun bx2 => ?_))
  refine TO.loud rfl (l_alloc inf25 rfl (fun bx3 => ?_))
  refine TO.quiet (q_assign rfl) ?_
  refine TO.nil (T.seq (T.region ?_))
  refine TO.quiet (q_load_boxAgg 2 Tryd.underlying25 rfl inf25 rfl rfl rfl) (TO.quiet (q_load_boxAgg 1 Tryd.underlying25 rfl inf25 rfl rfl rfl) ?_)
  have hk8 := fun (w1 : World) (hI : Inv w [oI bx3 25 [(.int .i64 0), (.int .i64 0), (.slice none 0 0), (.slice none 0 0)], oI bx2 25 (dC b k), oI bx1 25 (dC a j)] w1) => combineA w1 a b j k (hI.atB ha) (hI.atB hb) haa haar haaf hbb hbbr hbbf orB 57 orFV hN
  refine TO.loud rfl (l_call ent43 (CallT.of_pure hk8) rfl ?_)
  clear hk8
  rintro vr O' ⟨N, rfl, k', rfl, rfl⟩
  refine TO.quiet (q_extract (vs := _) rfl rfl) (TO.quiet (q_extract (vs := _) rfl rfl) ?_)
  refine TO.loud rfl (l_store_box (v := (dV (opV orB a b) k')) (vs := (dC (opV orB a b) k')) 1 inf25 rfl rfl rfl rfl rfl rfl (by simp [putL]) ?_)
  refine TO.quiet (q_assign rfl) ?_
  refine TO.nil (T.ret (Res.drop ?_))
  refine Res.cell1b (.int .i64 (wrongD a b : Int)) (i := 1) Tryd.results23 Tryd.underlying25 rfl inf25 rfl rfl rfl rfl ?_
  exact ⟨[dI 52 4 3 (opV orB a b) k'], (by exact Sub.k .z), k', rfl, rfl⟩
set_option maxHeartbeats 1000000 in
set_option maxRecDepth 20000 in
theorem xorC (w : World) (a b : DFA) (j k : DK) (ha : At w a j) (hb : At w b k) (haa : a.next.length < 9223372036854775807) (haar : ∀ r ∈ a.next, r.length < 9223372036854775807) (haaf : a.final.length < 9223372036854775807) (hbb : b.next.length < 9223372036854775807) (hbbr : ∀ r ∈ b.next, r.length < 9223372036854775807) (hbbf : b.final.length < 9223372036854775807) (hN : wrongD a b = 0 → a.next.length * b.next.length ≤ 4096 ∧ (order (prodD xorB a b)).length < 100) :
    PureT Tryd.prog 24 [dV a j, dV b k] w fun v N => ∃ k' : DK, v = .tuple #[dV (opV xorB a b) k', .int .i64 (wrongD a b : Int)] ∧ N = [dI 52 4 3 (opV xorB a b) k'] := by
  refine CallT.enter Tryd.func24 rfl Tryd.ntmps24 rfl ?_
  refine T.seq (T.region ?_)
  refine TO.loud rfl (l_box (v := (dV a j)) (cs := (dC a j)) rfl rfl (fun bx1 => ?_))
  refine TO.loud rfl (l_box (v := (dV b k)) (cs := (dC b k)) rfl rfl (fun bx2 => ?_))
  refine TO.loud rfl (l_alloc inf25 rfl (fun bx3 => ?_))
  refine TO.quiet (q_assign rfl) ?_
  refine TO.nil (T.seq (T.region ?_))
  refine TO.quiet (q_load_boxAgg 2 Tryd.underlying25 rfl inf25 rfl rfl rfl) (TO.quiet (q_load_boxAgg 1 Tryd.underlying25 rfl inf25 rfl rfl rfl) ?_)
  have hk8 := fun (w1 : World) (hI : Inv w [oI bx3 25 [(.int .i64 0), (.int .i64 0), (.slice none 0 0), (.slice none 0 0)], oI bx2 25 (dC b k), oI bx1 25 (dC a j)] w1) => combineA w1 a b j k (hI.atB ha) (hI.atB hb) haa haar haaf hbb hbbr hbbf xorB 58 xorFV hN
  refine TO.loud rfl (l_call ent43 (CallT.of_pure hk8) rfl ?_)
  clear hk8
  rintro vr O' ⟨N, rfl, k', rfl, rfl⟩
  refine TO.quiet (q_extract (vs := _) rfl rfl) (TO.quiet (q_extract (vs := _) rfl rfl) ?_)
  refine TO.loud rfl (l_store_box (v := (dV (opV xorB a b) k')) (vs := (dC (opV xorB a b) k')) 1 inf25 rfl rfl rfl rfl rfl rfl (by simp [putL]) ?_)
  refine TO.quiet (q_assign rfl) ?_
  refine TO.nil (T.ret (Res.drop ?_))
  refine Res.cell1b (.int .i64 (wrongD a b : Int)) (i := 1) Tryd.results24 Tryd.underlying25 rfl inf25 rfl rfl rfl rfl ?_
  exact ⟨[dI 52 4 3 (opV xorB a b) k'], (by exact Sub.k .z), k', rfl, rfl⟩
set_option maxHeartbeats 1000000 in
set_option maxRecDepth 20000 in
theorem minusC (w : World) (a b : DFA) (j k : DK) (ha : At w a j) (hb : At w b k) (haa : a.next.length < 9223372036854775807) (haar : ∀ r ∈ a.next, r.length < 9223372036854775807) (haaf : a.final.length < 9223372036854775807) (hbb : b.next.length < 9223372036854775807) (hbbr : ∀ r ∈ b.next, r.length < 9223372036854775807) (hbbf : b.final.length < 9223372036854775807) (hN : wrongD a b = 0 → a.next.length * b.next.length ≤ 4096 ∧ (order (prodD minusB a b)).length < 100) :
    PureT Tryd.prog 25 [dV a j, dV b k] w fun v N => ∃ k' : DK, v = .tuple #[dV (opV minusB a b) k', .int .i64 (wrongD a b : Int)] ∧ N = [dI 52 4 3 (opV minusB a b) k'] := by
  refine CallT.enter Tryd.func25 rfl Tryd.ntmps25 rfl ?_
  refine T.seq (T.region ?_)
  refine TO.loud rfl (l_box (v := (dV a j)) (cs := (dC a j)) rfl rfl (fun bx1 => ?_))
  refine TO.loud rfl (l_box (v := (dV b k)) (cs := (dC b k)) rfl rfl (fun bx2 => ?_))
  refine TO.loud rfl (l_alloc inf25 rfl (fun bx3 => ?_))
  refine TO.quiet (q_assign rfl) ?_
  refine TO.nil (T.seq (T.region ?_))
  refine TO.quiet (q_load_boxAgg 2 Tryd.underlying25 rfl inf25 rfl rfl rfl) (TO.quiet (q_load_boxAgg 1 Tryd.underlying25 rfl inf25 rfl rfl rfl) ?_)
  have hk8 := fun (w1 : World) (hI : Inv w [oI bx3 25 [(.int .i64 0), (.int .i64 0), (.slice none 0 0), (.slice none 0 0)], oI bx2 25 (dC b k), oI bx1 25 (dC a j)] w1) => combineA w1 a b j k (hI.atB ha) (hI.atB hb) haa haar haaf hbb hbbr hbbf minusB 59 minusFV hN
  refine TO.loud rfl (l_call ent43 (CallT.of_pure hk8) rfl ?_)
  clear hk8
  rintro vr O' ⟨N, rfl, k', rfl, rfl⟩
  refine TO.quiet (q_extract (vs := _) rfl rfl) (TO.quiet (q_extract (vs := _) rfl rfl) ?_)
  refine TO.loud rfl (l_store_box (v := (dV (opV minusB a b) k')) (vs := (dC (opV minusB a b) k')) 1 inf25 rfl rfl rfl rfl rfl rfl (by simp [putL]) ?_)
  refine TO.quiet (q_assign rfl) ?_
  refine TO.nil (T.ret (Res.drop ?_))
  refine Res.cell1b (.int .i64 (wrongD a b : Int)) (i := 1) Tryd.results25 Tryd.underlying25 rfl inf25 rfl rfl rfl rfl ?_
  exact ⟨[dI 52 4 3 (opV minusB a b) k'], (by exact Sub.k .z), k', rfl, rfl⟩
end Go.Proofs.YtdaapdamcekkgaaDoor

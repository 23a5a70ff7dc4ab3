/- Contracts of functions of the program (BolD): what each call answers and that it leaves memory as it was. Conditions: those each theorem names. -/
import Derived.Test.YtdaapdamcekkgaaDoorEnd
set_option linter.unusedSectionVars false
set_option linter.unusedSimpArgs false
set_option linter.unusedVariables false
set_option linter.unnecessarySimpa false
namespace Go.Lx
open Go.RowKit
set_option linter.unusedVariables false
theorem HasL.acc_true {v : Int} {n : Nat} {d : DFA} {p : List Nat → Bool} (h : HasL v n d p) {w : List Nat} (ha : Lx.accV d w = true) : WdV v w ∧ w.length ≤ 64 ∧ p w = true := by
  unfold Lx.accV at ha
  by_cases he : runE d w = 0
  · rw [if_pos he] at ha
    obtain ⟨_, hl, hw⟩ := runE_zero.1 he
    exact ⟨h.wd.1 hw, hl, by rw [← h.acc w (h.wd.1 hw)]; exact ha⟩
  · rw [if_neg he] at ha; exact absurd ha (by decide)
theorem HasL.acc_false {v : Int} {n : Nat} {d : DFA} {p : List Nat → Bool} (h : HasL v n d p) {w : List Nat} (hw : WdV v w) (hl : w.length ≤ 64) (ha : Lx.accV d w = false) : p w = false := by
  rw [← ha]; exact (h.accV hw hl).symm
theorem HasL.v6 {v : Int} {n : Nat} {d : DFA} {p : List Nat → Bool} (h : HasL v n d p) : 2 ^ v.toNat ≤ 64 := by
  have := h.valid.width; rw [h.vars] at this; exact this
theorem WdV.lt {v : Int} {w : List Nat} (h : WdV v w) (h6 : 2 ^ v.toNat ≤ 64) : ∀ x ∈ w, x < 64 := fun x hx => by have := h x hx; omega
structure InFacts (a b : DFA) (o u : List Nat) (is1 is2 eq1 : Bool) : Prop where
  andM : is1 = decide (opD andB a b = minD a)
  minusM : is1 = (decide (((opD minusB a b).next.length : Int) = 1) && !finN (opD minusB a b) 0)
  both : eq1 = (is1 && is2)
  yes : is1 = true → u = [] ∧ (accV a o = true → accV b o = true)
  no : is1 = false → u.length ≤ 64 → accV a u = true ∧ accV b u = false ∧ (∀ x ∈ u, x < 64) ∧ (accV a o = true → accV b o = false → (∀ x ∈ o, x < 64) ∧ code u ≤ code o)
theorem in_facts {v : Int} {n m : Nat} {a b : DFA} {p q : List Nat → Bool} (ha : HasL v n a p) (hb : HasL v m b q) (hn : n * m ≤ 4096) (hn2 : m * n ≤ 4096) {res res2 : Option (List Nat)} (h1 : LeastA (opD minusB a b) res) (h2 : LeastA (opD minusB b a) res2) {u : List Nat} (hu : u = res.getD []) {is1 is2 eq1 : Bool} (e1 : is1 = !res.isSome) (e2 : is2 = !res2.isSome)
    (e3 : eq1 = (decide ((opD xorB a b).next.length = 1) && !finN (opD xorB a b) 0)) (o : List Nat) : InFacts a b o u is1 is2 eq1 := by
  obtain ⟨i1, i2, i3⟩ := incl_iff ha hb hn h1
  obtain ⟨_, _, j3⟩ := incl_iff hb ha hn2 h2
  have hnone : ∀ (r : Option (List Nat)), (!r.isSome) = decide (r = none) := fun r => by cases r <;> simp
  have hs := same_iff ha hb hn
  have hm : MinL v (n * m) (opD minusB a b) _ := ha.op (f := minusB) hb hn
  refine ⟨?_, ?_, ?_, ?_, ?_⟩
  · rw [e1, hnone]; exact decide_eq_decide.2 i1
  · rw [e1, hnone]
    by_cases hr : res = none
    · obtain ⟨x1, x2⟩ := i2.1 hr
      rw [decide_eq_true hr, decide_eq_true (show (((opD minusB a b).next.length : Int) = 1) by omega), x2]; rfl
    · rw [decide_eq_false hr]
      by_cases hl : (opD minusB a b).next.length = 1
      · have : finN (opD minusB a b) 0 ≠ false := fun h => hr (i2.2 ⟨hl, h⟩)
        have h9 : finN (opD minusB a b) 0 = true := by simpa using this
        rw [h9]; simp
      · rw [decide_eq_false (show ¬ (((opD minusB a b).next.length : Int) = 1) by omega)]; rfl
  · have hx : (eq1 = true) ↔ (is1 = true ∧ is2 = true) := by
      rw [e1, e2, e3, hnone, hnone]
      simp only [Bool.and_eq_true, decide_eq_true_eq, Bool.not_eq_true']
      rw [hs, i3, j3]
      constructor
      · intro h; exact ⟨fun w hw hp => by rw [← h w hw]; exact hp, fun w hw hq => by rw [h w hw]; exact hq⟩
      · rintro ⟨x1, x2⟩ w hw
        have y1 := x1 w hw; have y2 := x2 w hw
        cases hp : p w <;> cases hq : q w <;> simp_all
    rw [Bool.eq_iff_iff, Bool.and_eq_true]; exact hx
  · intro h
    have hr : res = none := by rw [e1, hnone] at h; exact of_decide_eq_true h
    refine ⟨by rw [hu, hr]; rfl, fun hA => ?_⟩
    obtain ⟨w1, w2, w3⟩ := ha.acc_true hA
    rw [hb.accV w1 w2]
    exact (i3.1 hr) o w1 w3
  · intro h hl
    obtain ⟨u', hr⟩ : ∃ u', res = some u' := by
      rw [e1] at h
      cases res with
      | none => exact absurd h (by decide)
      | some u' => exact ⟨u', rfl⟩
    subst hr
    obtain rfl : u = u' := hu
    obtain ⟨l1, l2, l3⟩ := (show LeastA (opD minusB a b) (some u) from h1)
    have wv : WdV v u := hm.toHasL.wd.1 l1
    rw [hm.acc u wv] at l2
    have hpq : p u = true ∧ q u = false := by
      unfold minusB at l2; simpa using l2
    refine ⟨by rw [ha.accV wv hl]; exact hpq.1, by rw [hb.accV wv hl]; exact hpq.2, wv.lt ha.v6, fun hA hB => ?_⟩
    obtain ⟨w1, w2, w3⟩ := ha.acc_true hA
    refine ⟨w1.lt ha.v6, l3 o (hm.toHasL.wd.2 w1) ?_⟩
    rw [hm.acc o w1, w3, hb.acc_false w1 w2 hB]; rfl
theorem op_runE {f : Bool → Bool → Bool} {v : Int} {n m : Nat} {a b : DFA} {p q : List Nat → Bool} (ha : HasL v n a p) (hb : HasL v m b q) (hn : n * m ≤ 4096) (w : List Nat) : runE (opD f a b) w = runE a w := both_runE (ha.op (f := f) hb hn).valid ha.valid (by rw [(ha.op (f := f) hb hn).vars, ha.vars]) w
theorem op_accV {f : Bool → Bool → Bool} {v : Int} {n m : Nat} {a b : DFA} {p q : List Nat → Bool} (ha : HasL v n a p) (hb : HasL v m b q) (hn : n * m ≤ 4096) {w : List Nat} (he : runE a w = 0) : accV (opD f a b) w = f (accV a w) (accV b w) := by
  obtain ⟨_, hl, hw⟩ := runE_zero.1 he
  have hv := ha.wd.1 hw
  rw [(ha.op (f := f) hb hn).toHasL.accV hv hl, ha.accV hv hl, hb.accV hv hl]
theorem not_runE {v : Int} {n : Nat} {a : DFA} {p : List Nat → Bool} (ha : HasL v n a p) (hn : n * n ≤ 4096) (w : List Nat) : runE (notD a) w = runE a w := both_runE (ha.not hn).valid ha.valid (by rw [(ha.not hn).vars, ha.vars]) w
theorem not_accV {v : Int} {n : Nat} {a : DFA} {p : List Nat → Bool} (ha : HasL v n a p) (hn : n * n ≤ 4096) {w : List Nat} (he : runE a w = 0) : accV (notD a) w = !accV a w := by
  obtain ⟨_, hl, hw⟩ := runE_zero.1 he
  have hv := ha.wd.1 hw
  rw [(ha.not hn).toHasL.accV hv hl, ha.accV hv hl]
theorem Sh.allOk2 {n : Int} {a b : DFA} (h0 : 0 ≤ n) (h6 : n ≤ 6) (sa : Sh a) (sb : Sh b) : AllOk (stayD n true) [a, b] := fun hw => by
  obtain ⟨_, va, hv⟩ := wrongD_zero.1 hw
  have hs := stay_valid h0 h6 true
  have hl : (stayD n true).next.length = 1 := rfl
  have := sa.n8
  refine ⟨by rw [hl]; omega, fun hw2 => ⟨?_, trivial⟩⟩
  have hk := opD_len (f := andB) hs va hv (by rw [hl]; omega)
  rw [hl] at hk
  exact Nat.mul_le_mul (show (opD andB (stayD n true) a).next.length ≤ 8 by omega) sb.n8
theorem allOk0 (n : Int) : AllOk (stayD n true) [] := trivial
theorem dec_facts {a b : DFA} (sa : Sh a) (sb : Sh b) {r1 r2 : Option (List Nat)} (h1 : InclA a b r1) (h2 : InclA b a r2) :
    eqlA a b = ((decide (wrongD a b = 0) && !r1.isSome) && (decide (wrongD b a = 0) && !r2.isSome)) ∧ (eqlA a b = true → (r2.getD []).length = 0) := by
  by_cases hw : wrongD a b = 0
  · obtain ⟨va, vb, hv⟩ := wrongD_zero.1 hw
    have hw2 : wrongD b a = 0 := wrongD_zero.2 ⟨vb, va, hv.symm⟩
    have Ha := sa.has va
    have Hb : HasL a.vars 8 b (acc b) := by rw [hv]; exact sb.has vb
    have F := in_facts Ha Hb (by decide) (by decide) ((InclA.ok hw).1 h1) ((InclA.ok hw2).1 h2) (u := r1.getD []) rfl rfl rfl (eqlA_ok hw) []
    have G := in_facts Hb Ha (by decide) (by decide) ((InclA.ok hw2).1 h2) ((InclA.ok hw).1 h1) (u := r2.getD []) rfl rfl rfl rfl []
    rw [decide_eq_true hw, decide_eq_true hw2, F.both]
    refine ⟨by simp, fun h => ?_⟩
    rw [Bool.and_eq_true] at h
    rw [(G.yes h.2).1]; rfl
  · rw [eqlA_bad hw, decide_eq_false hw]
    exact ⟨by simp, fun h => absurd h (by decide)⟩
theorem Sh.allOk3 {n : Int} {a b c : DFA} (h0 : 0 ≤ n) (h6 : n ≤ 6) (la : a.next.length ≤ 4) (lb : b.next.length ≤ 4) (lc : c.next.length ≤ 4) : AllOk (stayD n true) [a, b, c] := fun hw => by
  obtain ⟨_, va, hv⟩ := wrongD_zero.1 hw
  have hs := stay_valid h0 h6 true
  have hl : (stayD n true).next.length = 1 := rfl
  refine ⟨by rw [hl]; omega, fun hw2 => ?_⟩
  have hk := opD_len (f := andB) hs va hv (by rw [hl]; omega)
  rw [hl] at hk
  obtain ⟨vd, vb, hv2⟩ := wrongD_zero.1 hw2
  have h16 : (opD andB (stayD n true) a).next.length * b.next.length ≤ 4 * 4 := Nat.mul_le_mul (by omega) lb
  refine ⟨by omega, fun hw3 => ⟨?_, trivial⟩⟩
  have hk2 := opD_len (f := andB) vd vb hv2 (by omega)
  exact Nat.mul_le_mul (show (opD andB (opD andB (stayD n true) a) b).next.length ≤ 16 by omega) lc
theorem all_three {v : Int} {a b c : DFA} (la : a.next.length ≤ 4) (lb : b.next.length ≤ 4) (lc : c.next.length ≤ 4) :
    ((allV v [a, b, c]).2 = 0 ↔ (0 ≤ v ∧ v ≤ 6) ∧ (Valid a ∧ a.vars = v) ∧ (Valid b ∧ b.vars = v) ∧ (Valid c ∧ c.vars = v)) ∧
    ((allV v [a, b, c]).2 ≠ 0 → (allV v [a, b, c]).1 = noD) ∧
    ((allV v [a, b, c]).2 = 0 → MinL v 64 (allV v [a, b, c]).1 (fun w => (acc a w && acc b w) && acc c w)) := by
  unfold allV
  by_cases h06 : 0 ≤ v ∧ v ≤ 6
  · rw [if_pos h06]
    obtain ⟨h0, h6⟩ := h06
    have hs : HasL v 1 (stayD v true) (fun _ => true) := ⟨stay_valid h0 h6 true, Nat.le_refl _, rfl, fun w hw => stay_acc h0 h6 true hw⟩
    have wv : ∀ {d x : DFA}, Valid d → d.vars = v → (wrongD d x = 0 ↔ Valid x ∧ x.vars = v) := fun {d x} hd hdv => by
      rw [wrongD_zero]
      constructor
      · rintro ⟨_, h1, h2⟩; exact ⟨h1, by rw [← h2, hdv]⟩
      · rintro ⟨h1, h2⟩; exact ⟨hd, h1, by rw [hdv, h2]⟩
    by_cases ha : Valid a ∧ a.vars = v
    · have Ha : HasL v 4 a (acc a) := ha.2 ▸ HasL.of ha.1 la
      have H1 : MinL v (1 * 4) (opD andB (stayD v true) a) _ := hs.op (f := andB) Ha (by decide)
      by_cases hb : Valid b ∧ b.vars = v
      · have Hb : HasL v 4 b (acc b) := hb.2 ▸ HasL.of hb.1 lb
        have H2 : MinL v (1 * 4 * 4) (opD andB (opD andB (stayD v true) a) b) _ := H1.toHasL.op (f := andB) Hb (by decide)
        by_cases hc : Valid c ∧ c.vars = v
        · have Hc : HasL v 4 c (acc c) := hc.2 ▸ HasL.of hc.1 lc
          have H3 : MinL v (1 * 4 * 4 * 4) (opD andB (opD andB (opD andB (stayD v true) a) b) c) _ := H2.toHasL.op (f := andB) Hc (by decide)
          simp only [allR, if_pos ((wv hs.valid hs.vars).2 ha), if_pos ((wv H1.valid H1.vars).2 hb), if_pos ((wv H2.valid H2.vars).2 hc)]
          refine ⟨⟨fun _ => ⟨⟨h0, h6⟩, ha, hb, hc⟩, fun _ => trivial⟩, fun h => absurd rfl h, fun _ => ⟨⟨H3.valid, H3.len, H3.vars, fun w hw => ?_⟩, H3.min⟩⟩
          rw [H3.acc w hw]; simp [andB]
        · simp only [allR, if_pos ((wv hs.valid hs.vars).2 ha), if_pos ((wv H1.valid H1.vars).2 hb), if_neg (fun h => hc ((wv H2.valid H2.vars).1 h))]
          have hne : wrongD (opD andB (opD andB (stayD v true) a) b) c ≠ 0 := fun h => hc ((wv H2.valid H2.vars).1 h)
          exact ⟨⟨fun h => absurd h hne, fun h => absurd h.2.2.2 hc⟩, fun _ => trivial, fun h => absurd h hne⟩
      · simp only [allR, if_pos ((wv hs.valid hs.vars).2 ha), if_neg (fun h => hb ((wv H1.valid H1.vars).1 h))]
        have hne : wrongD (opD andB (stayD v true) a) b ≠ 0 := fun h => hb ((wv H1.valid H1.vars).1 h)
        exact ⟨⟨fun h => absurd h hne, fun h => absurd h.2.2.1 hb⟩, fun _ => trivial, fun h => absurd h hne⟩
    · simp only [allR, if_neg (fun h => ha ((wv hs.valid hs.vars).1 h))]
      have hne : wrongD (stayD v true) a ≠ 0 := fun h => ha ((wv hs.valid hs.vars).1 h)
      exact ⟨⟨fun h => absurd h hne, fun h => absurd h.2.1 ha⟩, fun _ => trivial, fun h => absurd h hne⟩
  · rw [if_neg h06]
    exact ⟨⟨fun h => absurd h (by decide), fun h => absurd h.1 h06⟩, fun _ => rfl, fun h => absurd h (by decide)⟩
theorem all_facts {a b c : DFA} (la : a.next.length ≤ 4) (lb : b.next.length ≤ 4) (lc : c.next.length ≤ 4) (w : List Nat) :
    ((allV a.vars [a, b, c]).2 ≠ 0 → (allV a.vars [c, a, b]).2 ≠ 0 ∧ (allV a.vars [a, b, c]).1.next.length = 0) ∧
    ((allV a.vars [a, b, c]).2 = 0 → (allV a.vars [c, a, b]).2 = 0 ∧ (allV a.vars [c, a, b]).1 = (allV a.vars [a, b, c]).1 ∧ accV (allV a.vars [a, b, c]).1 w = ((accV a w && accV b w) && accV c w)) := by
  obtain ⟨p1, p2, p3⟩ := all_three (v := a.vars) la lb lc
  obtain ⟨q1, q2, q3⟩ := all_three (v := a.vars) (a := c) (b := a) (c := b) lc la lb
  refine ⟨fun h => ⟨fun h2 => h (p1.2 ?_), by rw [p2 h]; rfl⟩, fun h => ?_⟩
  · obtain ⟨x1, x2, x3, x4⟩ := q1.1 h2
    exact ⟨x1, x3, x4, x2⟩
  · obtain ⟨x1, x2, x3, x4⟩ := p1.1 h
    have h2 := q1.2 ⟨x1, x4, x2, x3⟩
    have m1 := p3 h
    have m2 := q3 h2
    refine ⟨h2, m2.ext m1 fun w _ => ?_, ?_⟩
    · cases acc a w <;> cases acc b w <;> cases acc c w <;> rfl
    · have Ha : HasL a.vars 4 a (acc a) := HasL.of x2.1 la
      have Hb : HasL a.vars 4 b (acc b) := x3.2 ▸ HasL.of x3.1 lb
      have Hc : HasL a.vars 4 c (acc c) := x4.2 ▸ HasL.of x4.1 lc
      by_cases hw : WdV a.vars w ∧ w.length ≤ 64
      · rw [m1.toHasL.accV hw.1 hw.2, Ha.accV hw.1 hw.2, Hb.accV hw.1 hw.2, Hc.accV hw.1 hw.2]
      · have f1 : accV (allV a.vars [a, b, c]).1 w = false := by
          refine Bool.eq_false_iff.2 fun h9 => hw ?_
          obtain ⟨y1, y2, _⟩ := m1.toHasL.acc_true h9; exact ⟨y1, y2⟩
        have f2 : accV a w = false := by
          refine Bool.eq_false_iff.2 fun h9 => hw ?_
          obtain ⟨y1, y2, _⟩ := Ha.acc_true h9; exact ⟨y1, y2⟩
        rw [f1, f2]; rfl
theorem allR_end_ok : ∀ (l : List DFA) (d : DFA), Valid d → AllOk d l → Valid (allR d l).1 ∨ (allR d l).1 = noD
  | [], d, hv, _ => .inl hv
  | x :: l, d, hv, ho => by
    unfold allR
    by_cases hw : wrongD d x = 0
    · rw [if_pos hw]
      obtain ⟨_, vx, hvx⟩ := wrongD_zero.1 hw
      obtain ⟨h1, h2⟩ := ho hw
      exact allR_end_ok l _ (opD_valid hv vx hvx (by omega)) h2
    · rw [if_neg hw]; exact .inr rfl
theorem allV_bounds {n : Int} {l : List DFA} (ho : 0 ≤ n → n ≤ 6 → AllOk (stayD n true) l) : (allV n l).1.next.length < 9223372036854775807 ∧ (∀ r ∈ (allV n l).1.next, r.length < 9223372036854775807) ∧ (allV n l).1.final.length < 9223372036854775807 := by
  have hno : noD.next.length < 9223372036854775807 ∧ (∀ r ∈ noD.next, r.length < 9223372036854775807) ∧ noD.final.length < 9223372036854775807 := ⟨by decide, fun r hr => by simp [noD] at hr, by decide⟩
  unfold allV
  by_cases h : 0 ≤ n ∧ n ≤ 6
  · rw [if_pos h]
    rcases allR_end_ok l _ (stay_valid h.1 h.2 true) (ho h.1 h.2) with hv | e
    · exact ⟨by have := hv.n4; omega, hv.bound, by have := hv.fin; have := hv.n4; omega⟩
    · rw [e]; exact hno
  · rw [if_neg h]; exact hno
theorem LeastA.lt {m : DFA} (hm : Valid m) (hn : m.next.length + 1 ≤ 4096) {u : List Nat} (h : LeastA m (some u)) : u.length ≤ m.next.length := by
  have hs := stay_valid hm.v0 hm.v6 false
  have hd : ∀ w, Wd m w → (dst (both m (stayD m.vars false)) m.start.toNat m.next.length w ↔ acc m w = true) := fun w hw => by
    have h1 := both_dst (a := m) (b := stayD m.vars false) hm hs rfl hw
    rw [show m.next.length + (stayD m.vars false).start.toNat = m.next.length from rfl] at h1
    rw [h1, stay_acc hm.v0 hm.v6 false (show Wd (stayD m.vars false) w from hw)]
    cases acc m w <;> simp
  obtain ⟨h1, h2, h3⟩ := h
  have hT : Tell (both m (stayD m.vars false)) m.start.toNat m.next.length (some u) := ⟨h1, (hd u h1).2 h2, fun x hx hxd => h3 x hx ((hd x hx).1 hxd)⟩
  have hlen := both_len m (stayD m.vars false)
  have h1' : (stayD m.vars false).next.length = 1 := rfl
  have := Tell.lt (both_valid hm hs rfl hn) (by rw [hlen]; have := start_lt hm; omega) (by rw [hlen]; omega) hT
  omega
theorem incl_len {a b : DFA} (sa : Sh a) (sb : Sh b) {r : Option (List Nat)} (h : InclA a b r) {u : List Nat} (hu : u = r.getD []) : u.length < 9223372036854775807 := by
  cases r with
  | none => subst hu; decide
  | some x =>
    obtain rfl : u = x := hu
    by_cases hw : wrongD a b = 0
    · obtain ⟨va, vb, hv⟩ := wrongD_zero.1 hw
      have h64 := sa.mul sb
      have hm := opD_valid (f := minusB) va vb hv (by omega)
      have hl := opD_len (f := minusB) va vb hv (by omega)
      have := LeastA.lt hm (by omega) ((InclA.ok hw).1 h)
      omega
    · unfold InclA at h; rw [if_neg hw] at h; cases h
theorem words_not {a mN : DFA} (sa : Sh a) (hc : checkD a = 0) (hN : opV notB a a = mN) (o : List Nat) : runE mN o = runE a o ∧ (runE a o = 0 → accV mN o = !accV a o) := by
  have va := checkD_zero.1 hc
  have Ha := sa.has va
  have hw : wrongD a a = 0 := by rw [wrongD_self]; exact hc
  rw [opV_ok hw, show opD notB a a = notD a from rfl] at hN
  subst hN
  exact ⟨not_runE Ha (by decide) o, fun he => not_accV Ha (by decide) he⟩
theorem op_four {p : Nat} (hp : p < 4) (x y : Bool) : [Value.bool (x && y), .bool (x || y), .bool (x != y), .bool (x && !y)][p]? = some (.bool (opB (p : Int) x y)) := by
  have : p = 0 ∨ p = 1 ∨ p = 2 ∨ p = 3 := by omega
  rcases this with rfl | rfl | rfl | rfl <;> rfl
theorem dec_facts2 {a b : DFA} (sa : Sh a) (sb : Sh b) {r1 r2 : Option (List Nat)} (h1 : InclA a b r1) (h2 : InclA b a r2) {eq1 is1 is2 : Bool} {u2 : List Nat} (e : eqlA a b = eq1) (e1 : is1 = (decide (wrongD a b = 0) && !r1.isSome)) (e2 : is2 = (decide (wrongD b a = 0) && !r2.isSome)) (eu : u2 = r2.getD []) :
    eq1 = (is1 && is2) ∧ (eq1 = true → u2.length = 0) := by
  subst e; subst e1; subst e2; subst eu
  exact dec_facts sa sb h1 h2
end Go.Lx

/- Contracts of functions of the program (Cfx, CoreY, Close, End, CloseC, EndC): what each call answers and that it leaves memory as it was. Conditions: those each theorem names. -/
import Derived.Test.YtnpehjpookcfkaaDoorC5
import Derived.Test.YtnpehjpookcfkaaDoorDR
import Derived.OpenShut
import Derived.Deep.DeepHandedRow
import Derived.Deep.Matrix
import Derived.Deep.Grids
import Derived.WideKeyArgs
import Derived.SizedLaws
import Derived.Test.YtnpehjpookcfkaaDoorDec
import Derived.Test.YtnpehjpookcfkaaDoorCards
import Derived.Test.YtnpehjpookcfkaaDoorTie
import Derived.WalkKit
import Derived.ProofKit
import Derived.Lib.LaidTab
import Derived.Test.YtnpehjpookcfkaaDoorFacts
set_option linter.unusedSectionVars false
set_option linter.unusedSimpArgs false
set_option linter.unusedVariables false
set_option linter.unnecessarySimpa false
namespace Go.Lx
open Go.RowKit
set_option linter.unusedVariables false
theorem exists_zn {l : List (DFA × Nat)} (h : ∀ q ∈ l, 1 ≤ q.2 ∧ q.2 ≤ 4096) (hN : (l.map (·.2)).foldr (· * ·) 1 ≤ 4095) : ∃ z, Valid z ∧ z.vars = 1 ∧ z.next.length ≤ 4095 ∧ ∀ q ∈ l, InL z (subD q.1 q.2) (acc (subD q.1 q.2)) := by
  have hv : ∀ d ∈ l.map (fun q => subD q.1 q.2), Valid d ∧ d.vars = 1 := fun d hd => by
    obtain ⟨q, hq, rfl⟩ := List.mem_map.1 hd
    exact ⟨subD_valid q.1 (h q hq).1 (h q hq).2, rfl⟩
  obtain ⟨h1, h2, h3, h4⟩ := zP_ok (v := 1) (by decide) (by decide) (l := l.map fun q => subD q.1 q.2) fun d hd => ⟨(hv d hd).1.toVal, (hv d hd).2⟩
  have hz : (zP 1 (l.map fun q => subD q.1 q.2)).next.length ≤ 4095 := by
    rw [h3]
    refine Nat.le_trans (zN_le (ns := l.map (·.2)) (by simp) fun i hi h2 => ?_) hN
    simp only [List.getElem_map]
    rw [(subD_len _ _).1]
    exact (subM_bd _ (h _ (List.getElem_mem _)).1).2
  refine ⟨_, ⟨h1, Nat.le_trans hz (by decide)⟩, h2, hz, fun q hq => ?_⟩
  have hm : subD q.1 q.2 ∈ l.map fun q => subD q.1 q.2 := List.mem_map.2 ⟨q, hq, rfl⟩
  exact InL.of ⟨h1, Nat.le_trans hz (by decide)⟩ (hv _ hm).1 (by rw [h2, (hv _ hm).2]) (by rw [h3]; exact (h4 _ hm).2) (h4 _ hm).1
abbrev BdA (a : DFA) : Prop := a.next.length < 9223372036854775807 ∧ (∀ r ∈ a.next, r.length < 9223372036854775807) ∧ a.final.length < 9223372036854775807
structure SatX (d a g z X A G M N : DFA) (px p q : List Nat → Bool) (bI : Bool) : Prop where
  hz : Valid z
  zl : z.next.length ≤ 4095
  eX : subD d 4 = X
  eA : subD a 3 = A
  eG : subD g 3 = G
  x : InL z X px
  a : InL z A p
  g : InL z G q
  eM : minD A = M
  eN : satD A G = N
  m : InL z M p
  n : InL z N (satP p q)
  eM2 : minD M = M
  eN2 : satD M N = N
  b1 : impB z.vars px p q = bI
  b2 : impB z.vars px p (satP p q) = bI
  b3 : incB z.vars px (satP p q) = bI
  b4 : impB z.vars (satP p q) p q = true
  r1 : refB z.vars p q p (satP p q) = true
  r2 : refB z.vars p (satP p q) p q = true
theorem sat_x (d a g : DFA) : ∃ (z X A G M N : DFA) (px p q : List Nat → Bool) (bI : Bool), SatX d a g z X A G M N px p q bI := by
  obtain ⟨z, hz, _, zl, h⟩ := exists_zn (l := [(d, 4), (a, 3), (g, 3)]) (by simp) (by simp)
  have hx := h (d, 4) (by simp)
  have ha := h (a, 3) (by simp)
  have hg := h (g, 3) (by simp)
  exact ⟨z, _, _, _, _, _, _, _, _, _, { hz := hz, zl := zl, eX := rfl, eA := rfl, eG := rfl, x := hx, a := ha, g := hg, eM := rfl, eN := rfl, m := InL.minI hz ha, n := InL.satI hz ha hg, eM2 := (sat_idem hz ha hg).1, eN2 := (sat_idem hz ha hg).2, b1 := rfl, b2 := sat_imp, b3 := sat_inc, b4 := sat_own, r1 := sat_ref1, r2 := sat_ref2 }⟩
structure OrdX (d a1 g1 a2 g2 a3 g3 z X A G B H C K : DFA) (px p1 q1 p2 q2 p3 q3 : List Nat → Bool) (r12 r23 r13 i21 m1 m2 : Bool) : Prop where
  hz : Valid z
  zl : z.next.length ≤ 4095
  eX : subD d 4 = X
  eA : subD a1 3 = A
  eG : subD g1 3 = G
  eB : subD a2 3 = B
  eH : subD g2 3 = H
  eC : subD a3 3 = C
  eK : subD g3 3 = K
  x : InL z X px
  a : InL z A p1
  g : InL z G q1
  b : InL z B p2
  h : InL z H q2
  c : InL z C p3
  k : InL z K q3
  r11 : refB z.vars p1 q1 p1 q1 = true
  e12 : refB z.vars p1 q1 p2 q2 = r12
  e23 : refB z.vars p2 q2 p3 q3 = r23
  e13 : refB z.vars p1 q1 p3 q3 = r13
  ei : incB z.vars p2 p1 = i21
  e1 : impB z.vars px p1 q1 = m1
  e2 : impB z.vars px p2 q2 = m2
  f1 : r12 = true → r23 = true → r13 = true
  f2 : r12 = true → i21 = true
  f3 : r12 = true → m1 = true → m2 = true
theorem ord_x (d a1 g1 a2 g2 a3 g3 : DFA) : ∃ (z X A G B H C K : DFA) (px p1 q1 p2 q2 p3 q3 : List Nat → Bool) (r12 r23 r13 i21 m1 m2 : Bool), OrdX d a1 g1 a2 g2 a3 g3 z X A G B H C K px p1 q1 p2 q2 p3 q3 r12 r23 r13 i21 m1 m2 := by
  obtain ⟨z, hz, _, zl, h⟩ := exists_zn (l := [(d, 4), (a1, 3), (g1, 3), (a2, 3), (g2, 3), (a3, 3), (g3, 3)]) (by simp) (by simp)
  exact ⟨z, _, _, _, _, _, _, _, _, _, _, _, _, _, _, _, _, _, _, _, _, { hz := hz, zl := zl, eX := rfl, eA := rfl, eG := rfl, eB := rfl, eH := rfl, eC := rfl, eK := rfl, x := h (d, 4) (by simp), a := h (a1, 3) (by simp), g := h (g1, 3) (by simp), b := h (a2, 3) (by simp), h := h (g2, 3) (by simp), c := h (a3, 3) (by simp), k := h (g3, 3) (by simp), r11 := ref_self, e12 := rfl, e23 := rfl, e13 := rfl, ei := rfl, e1 := rfl, e2 := rfl, f1 := ref_trans, f2 := ref_inc, f3 := ref_imp }⟩
structure BndX (d a1 g1 a2 g2 a3 g3 z X A G B H C K M N J L : DFA) (px p1 q1 p2 q2 p3 q3 pm qm pj qj : List Nat → Bool) (xm x1 x2 c1 c2 cm j1 j2 jc : Bool) : Prop where
  hz : Valid z
  eX : subD d 4 = X
  eA : subD a1 3 = A
  eG : subD g1 3 = G
  eB : subD a2 3 = B
  eH : subD g2 3 = H
  eC : subD a3 3 = C
  eK : subD g3 3 = K
  x : InL z X px
  a : InL z A p1
  g : InL z G q1
  b : InL z B p2
  h : InL z H q2
  c : InL z C p3
  k : InL z K q3
  eM : opD orB A B = M
  eN : opD andB (satD A G) (satD B H) = N
  eJ : opD andB A B = J
  eL : opD orB (satD A G) (satD B H) = L
  m : InL z M pm
  n : InL z N qm
  j : InL z J pj
  l : InL z L qj
  rm1 : refB z.vars pm qm p1 q1 = true
  rm2 : refB z.vars pm qm p2 q2 = true
  rj1 : refB z.vars p1 q1 pj qj = true
  rj2 : refB z.vars p2 q2 pj qj = true
  exm : impB z.vars px pm qm = xm
  ex1 : impB z.vars px p1 q1 = x1
  ex2 : impB z.vars px p2 q2 = x2
  ecm : refB z.vars p3 q3 pm qm = cm
  ec1 : refB z.vars p3 q3 p1 q1 = c1
  ec2 : refB z.vars p3 q3 p2 q2 = c2
  ejc : refB z.vars pj qj p3 q3 = jc
  ej1 : refB z.vars p1 q1 p3 q3 = j1
  ej2 : refB z.vars p2 q2 p3 q3 = j2
  f1 : xm = (x1 && x2)
  f2 : cm = (c1 && c2)
  f3 : jc = (j1 && j2)
theorem bnd_x (d a1 g1 a2 g2 a3 g3 : DFA) : ∃ (z X A G B H C K M N J L : DFA) (px p1 q1 p2 q2 p3 q3 pm qm pj qj : List Nat → Bool) (xm x1 x2 c1 c2 cm j1 j2 jc : Bool), BndX d a1 g1 a2 g2 a3 g3 z X A G B H C K M N J L px p1 q1 p2 q2 p3 q3 pm qm pj qj xm x1 x2 c1 c2 cm j1 j2 jc := by
  obtain ⟨z, hz, _, zl, h⟩ := exists_zn (l := [(d, 4), (a1, 3), (g1, 3), (a2, 3), (g2, 3), (a3, 3), (g3, 3)]) (by simp) (by simp)
  have hA := h (a1, 3) (by simp)
  have hG := h (g1, 3) (by simp)
  have hB := h (a2, 3) (by simp)
  have hH := h (g2, 3) (by simp)
  exact ⟨z, _, _, _, _, _, _, _, _, _, _, _, _, _, _, _, _, _, _, _, _, _, _, _, _, _, _, _, _, _, _, _, { hz := hz, eX := rfl, eA := rfl, eG := rfl, eB := rfl, eH := rfl, eC := rfl, eK := rfl, x := h (d, 4) (by simp), a := hA, g := hG, b := hB, h := hH, c := h (a3, 3) (by simp), k := h (g3, 3) (by simp), eM := rfl, eN := rfl, eJ := rfl, eL := rfl, m := InL.orI hz hA hB, n := InL.meetG hz hA hG hB hH, j := InL.andI hz hA hB, l := InL.joinG hz hA hG hB hH, rm1 := meet_ref1, rm2 := meet_ref2, rj1 := join_ref1, rj2 := join_ref2, exm := rfl, ex1 := rfl, ex2 := rfl, ecm := rfl, ec1 := rfl, ec2 := rfl, ejc := rfl, ej1 := rfl, ej2 := rfl, f1 := meet_imp, f2 := meet_max, f3 := join_min }⟩
structure CompX (d1 d2 a1 g1 a2 g2 z X Y A G B H P Q U M S N T V W : DFA) (px py p1 q1 p2 q2 pc qc : List Nat → Bool) (m1 m2 mb : Bool) : Prop where
  hz : Valid z
  zl : z.next.length ≤ 4095
  eX : subD d1 4 = X
  eY : subD d2 4 = Y
  eA : subD a1 3 = A
  eG : subD g1 3 = G
  eB : subD a2 3 = B
  eH : subD g2 3 = H
  x : InL z X px
  y : InL z Y py
  a : InL z A p1
  g : InL z G q1
  b : InL z B p2
  h : InL z H q2
  eP : opD orB (opD andB A B) (notD (opD andB (satD A G) (satD B H))) = P
  eQ : opD andB (satD A G) (satD B H) = Q
  p : InL z P pc
  q : InL z Q qc
  eU : opD andB X Y = U
  u : InL z U (andP px py)
  eM : minD A = M
  eS : satD A G = S
  eN : minD B = N
  eT : satD B H = T
  s : InL z S (satP p1 q1)
  t : InL z T (satP p2 q2)
  eV : opD andB S T = V
  v : InL z V (andP (satP p1 q1) (satP p2 q2))
  eW : opD andB V P = W
  w : InL z W (andP (andP (satP p1 q1) (satP p2 q2)) pc)
  e1 : impB z.vars px p1 q1 = m1
  e2 : impB z.vars py p2 q2 = m2
  eb : impB z.vars (andP px py) pc qc = mb
  f1 : m1 = true → m2 = true → mb = true
  i1 : incB z.vars (andP (andP (satP p1 q1) (satP p2 q2)) pc) p1 = true
  i2 : incB z.vars (andP (andP (satP p1 q1) (satP p2 q2)) pc) p2 = true
  s1 : impB z.vars (satP p1 q1) p1 q1 = true
  s2 : impB z.vars (satP p2 q2) p2 q2 = true
theorem comp_x (d1 d2 a1 g1 a2 g2 : DFA) : ∃ (z X Y A G B H P Q U M S N T V W : DFA) (px py p1 q1 p2 q2 pc qc : List Nat → Bool) (m1 m2 mb : Bool), CompX d1 d2 a1 g1 a2 g2 z X Y A G B H P Q U M S N T V W px py p1 q1 p2 q2 pc qc m1 m2 mb := by
  obtain ⟨z, hz, _, zl, h⟩ := exists_zn (l := [(d1, 4), (d2, 4), (a1, 3), (g1, 3), (a2, 3), (g2, 3)]) (by simp) (by simp)
  have hX := h (d1, 4) (by simp)
  have hY := h (d2, 4) (by simp)
  have hA := h (a1, 3) (by simp)
  have hG := h (g1, 3) (by simp)
  have hB := h (a2, 3) (by simp)
  have hH := h (g2, 3) (by simp)
  have hS := InL.satI hz hA hG
  have hT := InL.satI hz hB hH
  have hV := InL.andI hz hS hT
  have hP := (InL.compA hz hA hG hB hH).2
  exact ⟨z, _, _, _, _, _, _, _, _, _, _, _, _, _, _, _, _, _, _, _, _, _, _, _, _, _, _, { hz := hz, zl := zl, eX := rfl, eY := rfl, eA := rfl, eG := rfl, eB := rfl, eH := rfl, x := hX, y := hY, a := hA, g := hG, b := hB, h := hH, eP := rfl, eQ := rfl, p := hP, q := InL.meetG hz hA hG hB hH, eU := rfl, u := InL.andI hz hX hY, eM := rfl, eS := rfl, eN := rfl, eT := rfl, s := hS, t := hT, eV := rfl, v := hV, eW := rfl, w := InL.andI hz hV hP, e1 := rfl, e2 := rfl, eb := rfl, f1 := comp_imp, i1 := comp_inc1, i2 := comp_inc2, s1 := sat_own, s2 := sat_own }⟩
structure ComX (a1 g1 a2 g2 a3 g3 z A G B H C K P Q R S : DFA) (p1 q1 p2 q2 p3 q3 pp qp pr qr : List Nat → Bool) (r12 rpr : Bool) : Prop where
  hz : Valid z
  eA : subD a1 2 = A
  eG : subD g1 2 = G
  eB : subD a2 2 = B
  eH : subD g2 2 = H
  eC : subD a3 2 = C
  eK : subD g3 2 = K
  a : InL z A p1
  g : InL z G q1
  b : InL z B p2
  h : InL z H q2
  c : InL z C p3
  k : InL z K q3
  eP : opD orB (opD andB A C) (notD (opD andB (satD A G) (satD C K))) = P
  eQ : opD andB (satD A G) (satD C K) = Q
  eP2 : opD orB (opD andB C A) (notD (opD andB (satD C K) (satD A G))) = P
  eQ2 : opD andB (satD C K) (satD A G) = Q
  eR : opD orB (opD andB B C) (notD (opD andB (satD B H) (satD C K))) = R
  eS : opD andB (satD B H) (satD C K) = S
  p : InL z P pp
  q : InL z Q qp
  r : InL z R pr
  s : InL z S qr
  mP : minD P = P
  mQ : minD Q = Q
  e12 : refB z.vars p1 q1 p2 q2 = r12
  epr : refB z.vars pp qp pr qr = rpr
  f1 : r12 = true → rpr = true
theorem com_x (a1 g1 a2 g2 a3 g3 : DFA) : ∃ (z A G B H C K P Q R S : DFA) (p1 q1 p2 q2 p3 q3 pp qp pr qr : List Nat → Bool) (r12 rpr : Bool), ComX a1 g1 a2 g2 a3 g3 z A G B H C K P Q R S p1 q1 p2 q2 p3 q3 pp qp pr qr r12 rpr := by
  obtain ⟨z, hz, _, zl, h⟩ := exists_zn (l := [(a1, 2), (g1, 2), (a2, 2), (g2, 2), (a3, 2), (g3, 2)]) (by simp) (by simp)
  have hA := h (a1, 2) (by simp)
  have hG := h (g1, 2) (by simp)
  have hB := h (a2, 2) (by simp)
  have hH := h (g2, 2) (by simp)
  have hC := h (a3, 2) (by simp)
  have hK := h (g3, 2) (by simp)
  have hP := InL.compA hz hA hG hC hK
  have hQ := InL.meetM hz hA hG hC hK
  have hc := comp_comm hz hA hG hC hK
  exact ⟨z, _, _, _, _, _, _, _, _, _, _, _, _, _, _, _, _, _, _, _, _, _, _, { hz := hz, eA := rfl, eG := rfl, eB := rfl, eH := rfl, eC := rfl, eK := rfl, a := hA, g := hG, b := hB, h := hH, c := hC, k := hK, eP := rfl, eQ := rfl, eP2 := hc.1, eQ2 := hc.2, eR := rfl, eS := rfl, p := hP.2, q := InL.meetG hz hA hG hC hK, r := (InL.compA hz hB hH hC hK).2, s := InL.meetG hz hB hH hC hK, mP := hP.1.min, mQ := hQ.min, e12 := rfl, epr := rfl, f1 := comp_mono }⟩
structure MeanX (d a1 g1 a2 g2 : DFA) (lw : List Nat) (z X A G B H : DFA) (px p1 q1 p2 q2 : List Nat → Bool) (w : List Nat) (bI bF wx w1 v1 w2 v2 : Bool) : Prop where
  hz : Valid z
  eX : subD d 4 = X
  eA : subD a1 3 = A
  eG : subD g1 3 = G
  eB : subD a2 3 = B
  eH : subD g2 3 = H
  ew : letL lw = w
  wl : w.length ≤ 8
  w8 : ∀ x ∈ w, x < 256
  x : InL z X px
  a : InL z A p1
  g : InL z G q1
  b : InL z B p2
  h : InL z H q2
  eI : impB z.vars px p1 q1 = bI
  eF : refB z.vars p1 q1 p2 q2 = bF
  ax : accV X w = wx
  a1 : accV A w = w1
  a2 : accV G w = v1
  a3 : accV B w = w2
  a4 : accV H w = v2
  f1 : bI = true → wx = true → w1 = true → v1 = true
  f2 : bF = true → w2 = true → w1 = true
  f3 : bF = true → (v1 || !w1) = true → (v2 || !w2) = true
  wI : ∀ r, LeastA (opD minusB (opD andB X A) G) r → (!r.isSome) = bI → (bI = true → r.getD [] = []) ∧ (r.getD []).length ≤ 64 ∧ (∀ x ∈ r.getD [], x < 256) ∧ (bI = false → accV X (r.getD []) = true ∧ accV A (r.getD []) = true ∧ accV G (r.getD []) = false)
  wF : ∀ r, LeastA (opD orB (opD minusB B A) (opD minusB (satD A G) (satD B H))) r → (!r.isSome) = bF → (bF = true → r.getD [] = []) ∧ (r.getD []).length ≤ 64 ∧ (∀ x ∈ r.getD [], x < 256) ∧ ∃ u1 t1 u2 t2, accV A (r.getD []) = u1 ∧ accV G (r.getD []) = t1 ∧ accV B (r.getD []) = u2 ∧ accV H (r.getD []) = t2 ∧ (bF = false → (u2 = true ∧ u1 = false) ∨ ((t1 || !u1) = true ∧ (t2 || !u2) = false))
theorem wd1_256 {v : Int} (hv : v = 1) {u : List Nat} (h : WdV v u) : ∀ x ∈ u, x < 256 := fun x hx => by
  subst hv
  have : x < 2 := h x hx
  omega
theorem mean_x (d a1 g1 a2 g2 : DFA) (lw : List Nat) : ∃ (z X A G B H : DFA) (px p1 q1 p2 q2 : List Nat → Bool) (w : List Nat) (bI bF wx w1 v1 w2 v2 : Bool), MeanX d a1 g1 a2 g2 lw z X A G B H px p1 q1 p2 q2 w bI bF wx w1 v1 w2 v2 := by
  obtain ⟨z, hz, hv1, zl, h⟩ := exists_zn (l := [(d, 4), (a1, 3), (g1, 3), (a2, 3), (g2, 3)]) (by simp) (by simp)
  have hX := h (d, 4) (by simp)
  have hA := h (a1, 3) (by simp)
  have hG := h (g1, 3) (by simp)
  have hB := h (a2, 3) (by simp)
  have hH := h (g2, 3) (by simp)
  have lX : (subD d 4).next.length ≤ 4 := by rw [(subD_len d 4).1]; exact (subM_bd d (by decide)).2
  have l3 : ∀ e, (subD e 3).next.length ≤ 3 := fun e => by rw [(subD_len e 3).1]; exact (subM_bd e (by decide)).2
  have hw : WdV z.vars (letL lw) := by rw [hv1]; exact letL_wd lw
  have hl : (letL lw).length ≤ 64 := Nat.le_trans (letL_len lw) (by decide)
  have ac : ∀ {e : DFA}, InL z e (acc e) → Lx.accV e (letL lw) = acc e (letL lw) := fun he => he.accV hw hl
  have wI : ∀ r, LeastA (opD minusB (opD andB (subD d 4) (subD a1 3)) (subD g1 3)) r → (!r.isSome) = impB z.vars (acc (subD d 4)) (acc (subD a1 3)) (acc (subD g1 3)) → (impB z.vars (acc (subD d 4)) (acc (subD a1 3)) (acc (subD g1 3)) = true → r.getD [] = []) ∧ (r.getD []).length ≤ 64 ∧ (∀ x ∈ r.getD [], x < 256) ∧ (impB z.vars (acc (subD d 4)) (acc (subD a1 3)) (acc (subD g1 3)) = false → Lx.accV (subD d 4) (r.getD []) = true ∧ Lx.accV (subD a1 3) (r.getD []) = true ∧ Lx.accV (subD g1 3) (r.getD []) = false) := fun r hr e => by
    cases r with
    | none => exact ⟨fun _ => rfl, Nat.zero_le _, fun x hx => by simp at hx, fun h0 => absurd (e.trans h0) (by simp)⟩
    | some u =>
      obtain ⟨u1, u2, u3, u4, u5⟩ := imp_word hz hX hA hG (Nat.le_trans (Nat.mul_le_mul (Nat.mul_le_mul lX (l3 a1)) (l3 g1)) (by decide)) hr
      refine ⟨fun h0 => absurd (e.trans h0) (by simp), u2, wd1_256 hv1 u1, fun _ => ?_⟩
      exact ⟨by rw [show (some u).getD [] = u from rfl, hX.accV u1 u2]; exact u3, by rw [show (some u).getD [] = u from rfl, hA.accV u1 u2]; exact u4, by rw [show (some u).getD [] = u from rfl, hG.accV u1 u2]; exact u5⟩
  have wF : ∀ r, LeastA (opD orB (opD minusB (subD a2 3) (subD a1 3)) (opD minusB (satD (subD a1 3) (subD g1 3)) (satD (subD a2 3) (subD g2 3)))) r → (!r.isSome) = refB z.vars (acc (subD a1 3)) (acc (subD g1 3)) (acc (subD a2 3)) (acc (subD g2 3)) → (refB z.vars (acc (subD a1 3)) (acc (subD g1 3)) (acc (subD a2 3)) (acc (subD g2 3)) = true → r.getD [] = []) ∧ (r.getD []).length ≤ 64 ∧ (∀ x ∈ r.getD [], x < 256) ∧ ∃ u1 t1 u2 t2, Lx.accV (subD a1 3) (r.getD []) = u1 ∧ Lx.accV (subD g1 3) (r.getD []) = t1 ∧ Lx.accV (subD a2 3) (r.getD []) = u2 ∧ Lx.accV (subD g2 3) (r.getD []) = t2 ∧ (refB z.vars (acc (subD a1 3)) (acc (subD g1 3)) (acc (subD a2 3)) (acc (subD g2 3)) = false → (u2 = true ∧ u1 = false) ∨ ((t1 || !u1) = true ∧ (t2 || !u2) = false)) := fun r hr e => by
    cases r with
    | none => exact ⟨fun _ => rfl, Nat.zero_le _, fun x hx => by simp at hx, _, _, _, _, rfl, rfl, rfl, rfl, fun h0 => absurd (e.trans h0) (by simp)⟩
    | some u =>
      obtain ⟨u1, u2, u3⟩ := ref_word hz hA hG hB hH (l3 a1) (l3 g1) (l3 a2) (l3 g2) hr
      exact ⟨fun h0 => absurd (e.trans h0) (by simp), u2, wd1_256 hv1 u1, _, _, _, _, hA.accV u1 u2, hG.accV u1 u2, hB.accV u1 u2, hH.accV u1 u2, fun _ => u3⟩
  exact ⟨z, _, _, _, _, _, _, _, _, _, _, _, _, _, _, _, _, _, _, { hz := hz, eX := rfl, eA := rfl, eG := rfl, eB := rfl, eH := rfl, ew := rfl, wl := letL_len lw, w8 := letL_256 lw, x := hX, a := hA, g := hG, b := hB, h := hH, eI := rfl, eF := rfl, ax := rfl, a1 := rfl, a2 := rfl, a3 := rfl, a4 := rfl, f1 := fun e => by rw [ac hX, ac hA, ac hG]; exact impB_iff.1 e _ hw, f2 := fun e => by rw [ac hA, ac hB]; exact (refB_iff.1 e _ hw).1, f3 := fun e => by rw [ac hA, ac hB, ac hG, ac hH]; exact (refB_iff.1 e _ hw).2, wI := wI, wF := wF }⟩
end Go.Lx

namespace Go.Lx
theorem T.reset {P : Program} {r : Option Nat} {base : World} {n : Nat} {c : Code} {Q : Post} {ρ : Env} {O : List Item} (O' : List Item) (L : List (Nat × Value)) (e : O = O') (h : Heads L ρ) (k : ∀ ρ0, T P r base n c Q (heads L ρ0) O') : T P r base n c Q ρ O := by
  obtain ⟨ρ0, rfl⟩ := h.elim
  subst e
  exact k ρ0
theorem Rnd.reset {P : Program} {r : Option Nat} {base : World} {n m : Nat} {c : Code} {Q : Post} {ρ : Env} {O : List Item} (O' : List Item) (L : List (Nat × Value)) (e : O = O') (h : Heads L ρ) (k : ∀ ρ0, Rnd P r base n c Q m (heads L ρ0) O') : Rnd P r base n c Q m ρ O := by
  obtain ⟨ρ0, rfl⟩ := h.elim
  subst e
  exact k ρ0
end Go.Lx

namespace Go.Lx
open Go.RowKit Go.ChangeShapes Go.WideShapes Go.Deep
set_option linter.unusedVariables false
section
variable {H : Type} {enc : TypeId × Value → H} {P : Program}
theorem TrodAll_stays (hl : laidOutB P = true) {W W' : World} {sp' : Nat → Bool} : ∀ {ts : List TypeId} {vs : List Value} {ds : List (DataW H)} {ps : List MemPlace},
    (∀ t ∈ ts, P.readableRec t = true ∧ t < P.types.size) → DataW.TrodAll enc P W 0 (fun _ => true) true ts vs ds ps → (∀ p ∈ ps, W.sameAt W' p) → (∀ p ∈ ps, sp' p.block = true) → DataW.TrodAll enc P W' 0 sp' true ts vs ds ps
  | [], _, _, _, _, h, _, _ => by
    obtain ⟨rfl, rfl, rfl⟩ := trodAll_nil h
    rfl
  | t :: ts, _, _, _, hr, h, hs, hsp => by
    obtain ⟨v, vs1, d, ds1, p, q, rfl, rfl, rfl, h1, h2⟩ := trodAll_cons h
    have ht := hr t (by simp)
    exact ⟨p, q, WideElems.Trod_stays hl ht.1 ht.2 h1 (fun x hx => hs x (List.mem_append_left _ hx)) (fun x hx => hsp x (List.mem_append_left _ hx)),
      TrodAll_stays hl (fun t ht => hr t (by simp [ht])) h2 (fun x hx => hs x (List.mem_append_right _ hx)) (fun x hx => hsp x (List.mem_append_right _ hx)), rfl⟩
theorem post_law {f : Func} {s : ChangeSpec} {W W' : World} {args : Array Value} {ds gs : List (DataW H)} {before : List MemPlace} {tb : TypeId}
    (hl : laidOutB P = true) (hr : ∀ t ∈ f.params.toList, P.readableRec t = true ∧ t < P.types.size) (hres : f.resultTypes = #[tb]) (hb : P.underlying tb = some .bool) (hv : s.vars = [])
    (hW : DataW.Whole enc P f.params.toList s.vars false W args.toList ds gs before)
    (h1 : (s.fn H ds).results = [.lit (.bool true)]) (h2 : (s.fn H ds).args = ds) (h3 : (s.fn H ds).vars = [])
    (hB : Below W.heap.size W W') : s.post enc P f false true false false W args (.bool true) W' := by
  have hW0 := hW
  obtain ⟨p, q, hA, hV, rfl, hz, hn⟩ := hW
  rw [hv] at hV
  obtain ⟨rfl, rfl⟩ := trodVars_none hV
  simp only [List.append_nil] at hW0 hz hn
  have hlt := hW0.lt
  have hsame : ∀ x ∈ p, W.sameAt W' x := fun x hx => hB.same (hlt x hx)
  have hargs : ∀ sp : Nat → Bool, (∀ x ∈ p, sp x.block = true) → DataW.TrodAll enc P W' 0 sp true f.params.toList args.toList (s.fn H (ds ++ [])).args p := fun sp hsp => by
    rw [List.append_nil, h2]
    exact TrodAll_stays hl hr hA hsame hsp
  have hvars : ∀ sp : Nat → Bool, DataW.TrodVars enc P W' sp s.vars (s.fn H (ds ++ [])).vars [] := fun sp => by
    rw [List.append_nil, hv, h3]; rfl
  have hresult : ∀ (b : Nat) (sp : Nat → Bool) (hd : Bool), DataW.TrodAll enc P W' b sp hd f.resultTypes.toList ((Value.bool true).resultList f.resultTypes.size) (s.fn H (ds ++ [])).results [] := fun b sp hd => by
    rw [List.append_nil, h1, hres]
    exact trodAll_cons_mk (shut_bool hb _) trodAll_mk0
  have hold : ∀ x ∈ p, (fun b => decide (b < W.heap.size)) x.block = true := fun x hx => by simpa using hlt x hx
  refine ⟨ds, [], p, [], p, [], hW0, hresult _ _ _, hargs _ hold, hvars _, World.keptBut_mono (fun x hx => ⟨hx, ?_⟩) (hB.frame _), fun _ => ?_⟩
  · exact Or.inr (by simpa using hx)
  · refine ⟨ok_one hres rfl (okWide_bool_mk hb _), _, _, ([] ++ p) ++ [], ⟨[] ++ p, [], trodAll_append (hargs _ (fun _ _ => rfl)) (hresult _ _ _), hvars _, rfl, ?_, ?_⟩, ?_⟩
    · intro b off hx
      have hx' : MemPlace.cell b off ∈ p := by simpa using hx
      rw [hB.frozen (p := ⟨b, off, none⟩) (hlt _ hx')]
      exact hz b off hx'
    · intro ha; cases ha
    · intro x hx _
      simpa using hx
theorem spotNone {w : World} {a : Addr} {v : Value} (h : w.cell? a = some v) : a.spot = none := by
  unfold World.cell? at h
  cases e : a.spot with
  | none => rfl
  | some x => rw [e] at h; split at h <;> simp at h
theorem Sl.ofCells {w : World} {a : Addr} {cs : List Value} (h : ∀ i (hi : i < cs.length), w.cell? (a.add i) = some cs[i]) : Sl w (some a) cs := fun i hi => by
  have h0 := h 0 (by omega)
  have h1 := h i hi
  have h2 : a.spot = none := spotNone (a := a) (by simpa [Addr.add] using h0)
  refine ⟨a, rfl, h2, ?_⟩
  have e : a.add i = ⟨a.block, a.off + i, none⟩ := by
    unfold Addr.add
    split
    · rename_i h; subst h
      cases a with
      | mk b o s => simp at h2; subst h2; rfl
    · rfl
  rw [← e]; exact h1
structure DfaIn (P : Program) (W : World) (v : Value) (d : DFA) (nb fb : Option Addr) (nc fc : Nat) (vs : List Value) : Prop where
  val : v = .agg (dfaCells d nb nc fb fc).toArray
  at_ : DfaAt W d nb vs fb
  n : d.next.length ≤ reachBytes
  r : ∀ r ∈ d.next, r.length ≤ reachBytes
  f : d.final.length ≤ reachBytes
theorem weights_all (e : TypeId) : ∀ {l : List (DataW H)} {d : DataW H}, d ∈ l → ∀ m ∈ d.weights P e, m ∈ DataW.weightsAll P e l
  | [], _, h, _, _ => by cases h
  | x :: l, d, h, m, hm => by
    rw [DataW.weightsAll, List.mem_append]
    rcases List.mem_cons.1 h with rfl | h
    · exact .inl hm
    · exact .inr (weights_all e h m hm)
theorem slice_bound {t e : TypeId} {elems spare : List (DataW H)} (ht : P.underlying t = some (.slice e)) (he : 0 < P.bytesOf e) (h : ∀ m ∈ (DataW.slice elems spare).weights P t, m ≤ reachBytes) :
    elems.length ≤ reachBytes ∧ ∀ d ∈ elems, ∀ m ∈ d.weights P e, m ≤ reachBytes := by
  have hw : (DataW.slice elems spare).weights P t = (elems.length + spare.length) * P.bytesOf e :: (DataW.weightsAll P e elems ++ DataW.weightsAll P e spare) := by
    rw [DataW.weights, ht]
  rw [hw] at h
  refine ⟨?_, fun d hd m hm => h m (List.mem_cons_of_mem _ (List.mem_append_left _ (weights_all e hd m hm)))⟩
  have h1 := h _ List.mem_cons_self
  have h2 := Nat.mul_le_mul_left (elems.length + spare.length) (show 1 ≤ P.bytesOf e from he)
  omega
theorem intsOf {w : World} {A : Option Addr} {L C : Nat} {Z : List Int} (hL : L ≤ C) (hZ : Z.length = C) (h0 : A = none → C = 0) (h : ∀ a', A = some a' → 0 ≤ a'.block ∧ ∀ c, c < C → w.cell? (a'.add c) = some (.int .i64 (Z.getD c 0))) :
    (Z.take L).length = L ∧ Sl w A (ints (Z.take L)) := by
  have hl : (Z.take L).length = L := by rw [List.length_take]; omega
  refine ⟨hl, ?_⟩
  cases A with
  | none =>
    have := h0 rfl
    have : Z.take L = [] := List.eq_nil_of_length_eq_zero (by omega)
    rw [this]; exact Sl.nil _ _
  | some a =>
    refine Sl.ofCells fun i hi => ?_
    have hi' : i < L := by rw [List.length_map, hl] at hi; exact hi
    have hiz : i < Z.length := by omega
    rw [(h a rfl).2 i (by omega), List.getElem_map, List.getElem_take]
    simp [hiz]
theorem open_dfa {t ti tn tr tf tb : TypeId} {f0 f1 f2 f3 : Field} {W : World} {v : Value} {d : DataW H} {p : List MemPlace}
    (ht : P.underlying t = some (.struct #[f0, f1, f2, f3])) (hc : P.cellsOf t = 4) (h0 : f0.type = ti) (h1 : f1.type = ti) (h2 : f2.type = tn) (h3 : f3.type = tf) (o0 : f0.offset = 0) (o1 : f1.offset = 1) (o2 : f2.offset = 2) (o3 : f3.offset = 3)
    (hi : P.underlying ti = some (.int .i64)) (hn : P.underlying tn = some (.slice tr)) (hrow : P.underlying tr = some (.slice ti)) (hf : P.underlying tf = some (.slice tb)) (hb : P.underlying tb = some .bool)
    (ci : P.cellsOf ti = 1) (cn : P.cellsOf tn = 1) (cr : P.cellsOf tr = 1) (cf : P.cellsOf tf = 1) (cb : P.cellsOf tb = 1) (br : 0 < P.bytesOf tr) (bi : 0 < P.bytesOf ti) (bb : 0 < P.bytesOf tb) (hw : ∀ m ∈ d.weights P t, m ≤ reachBytes)
    (h : DataW.Trod enc P W 0 (fun _ => true) true t v d p) : ∃ D nb fb nc fc vs, DfaIn P W v D nb fb nc fc vs := by
  obtain ⟨fuel, hT⟩ := h
  obtain ⟨xs, n, rfl, hx, hlen, hxl, hfs⟩ := DataW.trod_struct ht hT
  rw [hc] at hlen
  obtain ⟨c0, c1, c2, c3, hcs⟩ : ∃ c0 c1 c2 c3, v.cells.toList = [c0, c1, c2, c3] := by
    match hh : v.cells.toList, hlen with
    | [a, b, c, e], _ => exact ⟨a, b, c, e, rfl⟩
  have hv : v = .agg #[c0, c1, c2, c3] := by
    have hsz : v.cells.size = 4 := by rw [← Array.length_toList, hcs]; rfl
    cases v with
    | agg cs =>
      have : cs.toList = [c0, c1, c2, c3] := hcs
      rw [← Array.toArray_toList (xs := cs), this]
    | _ => simp [Value.cells] at hsz
  rw [hcs] at hfs
  obtain ⟨x0, x1, x2, x3, rfl⟩ : ∃ a b c e, xs = [a, b, c, e] := by
    match xs, hxl with
    | [a, b, c, e], _ => exact ⟨a, b, c, e, rfl⟩
  have g0 := hfs 0 f0 rfl
  have g1 := hfs 1 f1 rfl
  have g2 := hfs 2 f2 rfl
  have g3 := hfs 3 f3 rfl
  rw [h0, o0, ci] at g0
  rw [h1, o1, ci] at g1
  rw [h2, o2, cn] at g2
  rw [h3, o3, cf] at g3
  have hd : d = .agg [x0.1, x1.1, x2.1, x3.1] := congrArg Prod.fst hx
  have hwe : d.weights P t = DataW.weightsEach P [ti, ti, tn, tf] [x0.1, x1.1, x2.1, x3.1] := by
    rw [hd, DataW.weights, ht]
    simp [h0, h1, h2, h3]
  rw [hwe] at hw
  have hw2 : ∀ m ∈ x2.1.weights P tn, m ≤ reachBytes := fun m hm => hw m (DataW.weights_mem_each (j := 2) rfl rfl m hm)
  have hw3 : ∀ m ∈ x3.1.weights P tf, m ≤ reachBytes := fun m hm => hw m (DataW.weights_mem_each (j := 3) rfl rfl m hm)
  obtain ⟨n0, e0, _, _⟩ := DataW.trod_int hi g0
  obtain ⟨n1, e1, _, _⟩ := DataW.trod_int hi g1
  have e0' : c0 = .int .i64 n0 := by simpa using e0
  have e1' : c1 = .int .i64 n1 := by simpa using e1
  subst e0' e1'
  obtain ⟨nb, nc, rows, vs, e2, hnl, hvl, hout, hrows⟩ : ∃ (nb : Option Addr) (nc : Nat) (rows : List (List Int)) (vs : List Value), c2 = .slice nb rows.length nc ∧ rows.length ≤ reachBytes ∧ (∀ r ∈ rows, r.length ≤ reachBytes) ∧ Sl W nb vs ∧ RowsR W vs rows := by
    rcases open_int_rows hn hrow hi cr ci g2 with ⟨hcs2, _⟩ | ⟨a, len, cap, A, L, C, Z, hcs2, _, hlc, hcm, hx2, hall⟩
    · exact ⟨none, 0, [], [], by simpa using hcs2, Nat.zero_le _, fun r hr => (List.not_mem_nil hr).elim, Sl.nil _ _, rfl, fun i r hr => by simp at hr⟩
    · rw [congrArg Prod.fst hx2] at hw2
      obtain ⟨hwl, hwr⟩ := slice_bound hn br hw2
      have hwl' : len ≤ reachBytes := by simpa using hwl
      have hwrow : ∀ r, r < len → L r ≤ reachBytes := fun r hr => by
        obtain ⟨_, a2, _, a4, _, a6, _⟩ := hall r (by omega)
        have hm := hwr _ (List.mem_map.2 ⟨r, List.mem_range.2 hr, rfl⟩)
        cases hA : A r with
        | none => have := a6 hA; omega
        | some b =>
          rw [hA] at hm
          have := (slice_bound hrow bi hm).1
          simp [lits] at this
          omega
      have hrl : ∀ r, r < len → ((Z r).take (L r)).length = L r ∧ Sl W (A r) (ints ((Z r).take (L r))) := fun r hr => by
        obtain ⟨_, a2, a3, a4, _, a6, a7⟩ := hall r (by omega)
        exact intsOf a2 a4 a6 a7
      refine ⟨some a, cap, (List.range len).map fun r => (Z r).take (L r), (List.range len).map fun r => .slice (A r) (L r) (C r), by simpa using hcs2, by simp; omega, ?_, ?_, by simp, ?_⟩
      · intro r hr
        obtain ⟨j, hj, rfl⟩ := List.mem_map.1 hr
        have hj' := List.mem_range.1 hj
        rw [(hrl j hj').1]; exact hwrow j hj'
      · refine Sl.ofCells fun i hi9 => ?_
        have hi' : i < len := by simpa using hi9
        rw [(hall i (by omega)).1]; simp
      · intro i r hr
        have hi' : i < len := by
          have := (List.getElem?_eq_some_iff.1 hr).1
          simpa using this
        have er : r = (Z i).take (L i) := by
          rw [List.getElem?_map, List.getElem?_range hi'] at hr
          exact (Option.some.inj hr).symm
        subst er
        refine ⟨A i, C i, ?_, (hrl i hi').2⟩
        rw [List.getElem?_map, List.getElem?_range hi', (hrl i hi').1]; rfl
  obtain ⟨fb, fc, fin, e3, hfl, hfin⟩ : ∃ (fb : Option Addr) (fc : Nat) (fin : List Bool), c3 = .slice fb fin.length fc ∧ fin.length ≤ reachBytes ∧ Sl W fb (bools fin) := by
    rcases open_bools hf hb cb g3 with ⟨hcs3, _⟩ | ⟨a, len, cap, B, hcs3, _, hlc, hcm, hx3, hall⟩
    · exact ⟨none, 0, [], by simpa using hcs3, Nat.zero_le _, Sl.nil _ _⟩
    · rw [congrArg Prod.fst hx3] at hw3
      have hwl := (slice_bound hf bb hw3).1
      have hwl' : len ≤ reachBytes := by simpa using hwl
      refine ⟨some a, cap, (List.range len).map B, by simpa using hcs3, by simp; omega, Sl.ofCells fun i hi9 => ?_⟩
      have hi' : i < len := by simpa using hi9
      rw [hall i (by omega)]; simp
  exact ⟨⟨n0, n1, rows, fin⟩, nb, fb, nc, fc, vs, by rw [hv, e2, e3], ⟨hout, hrows, hfin⟩, hnl, hvl, hfl⟩
theorem wf64 {n : Int} (h : (Lit.int .i64 n).wf = true) : -9223372036854775808 ≤ n ∧ n ≤ 9223372036854775807 := by
  simp only [Lit.wf, Bool.and_eq_true, decide_eq_true_eq] at h
  exact h
theorem wfU8 {n : Int} (h : (Lit.int .u8 n).wf = true) : 0 ≤ n ∧ n < 256 := by
  simp only [Lit.wf, Bool.and_eq_true, decide_eq_true_eq] at h
  have h1 : (0 : Int) ≤ n := h.1
  have h2 : n ≤ 255 := h.2
  omega
theorem open_word {t e : TypeId} {W : World} {r : Reach} {b0 : Nat} {v : Value} {d : DataW H} {p : List MemPlace} (ht : P.underlying t = some (.slice e)) (he : P.underlying e = some (.int .u8)) (ce : P.cellsOf e = 1) (be : 0 < P.bytesOf e)
    (hval : Value.okWide P W r b0 t v) (hw : ∀ m ∈ d.weights P t, m ≤ reachBytes) (h : DataW.Trod enc P W 0 (fun _ => true) true t v d p) :
    ∃ (l : List Nat) (b : Option Addr) (c : Nat), v = .slice b l.length c ∧ (Sl W b (byts l) ∧ ∀ x ∈ l, x < 256) ∧ l.length ≤ reachBytes := by
  obtain ⟨fuel, hT⟩ := h
  have hv : v.cells.toList = [v] := by
    unfold Value.okWide at hval
    rw [ht] at hval
    simp only at hval
    unfold Cell.okWide Cell.ok at hval
    rw [ht] at hval
    cases v <;> simp_all [Value.cells]
  rcases open_ints ht he ce hT with ⟨hcs, _⟩ | ⟨a, len, cap, zs, hcs, _, hl, _, hz, hx, hcell, hwz⟩
  · rw [hv] at hcs
    exact ⟨[], none, 0, by simpa using hcs, ⟨Sl.nil _ _, fun x hx => by cases hx⟩, Nat.zero_le _⟩
  · rw [hv] at hcs
    simp only [if_true] at hz
    have hd : d = _ := congrArg Prod.fst hx
    rw [hd] at hw
    have hb := (slice_bound ht be hw).1
    have hln : (zs.take len).length = len := by rw [List.length_take]; omega
    have hwt : ∀ z ∈ zs, 0 ≤ z ∧ z < 256 := fun z hz => wfU8 (hwz z hz)
    refine ⟨(zs.take len).map Int.toNat, some a, cap, ?_, ⟨?_, ?_⟩, ?_⟩
    · rw [List.length_map, hln]; simpa using hcs
    · refine Sl.ofCells fun i hi => ?_
      have hi' : i < len := by rw [List.length_map, List.length_map, hln] at hi; exact hi
      have hiz : i < zs.length := by omega
      have hz0 := (hwt _ (List.getElem_mem hiz)).1
      rw [hcell i hiz]
      simp [hiz, Int.toNat_of_nonneg hz0]
    · intro x hx
      obtain ⟨z, hz', rfl⟩ := List.mem_map.1 hx
      have := hwt z (List.mem_of_mem_take hz')
      omega
    · rw [List.length_map, hln]
      have : (lits (H := H) .u8 (zs.take len)).length = len := by simp [lits]; omega
      omega
theorem lt63 {n : Nat} (h : n ≤ reachBytes) : n < 9223372036854775807 := Nat.lt_of_le_of_lt h (by decide)
end
end Go.Lx

namespace Go.Proofs.YtnpehjpookcfkaaDoor
open Go.ChangeShapes Go.WideShapes Go.ChangeAt Go.RowKit Go.Lx
set_option maxRecDepth 100000
theorem own : ownKnob Tryd.prog.godebug = none := by kernel_rfl
theorem laidOut : laidOutB Tryd.prog = true := by kernel_rfl
theorem reads25 : Tryd.prog.readableRec 25 = true := by kernel_rfl
theorem reads3 : Tryd.prog.readableRec 3 = true := by kernel_rfl
theorem lt25 : 25 < Tryd.prog.types.size := of_decide_eq_true (by kernel_rfl)
theorem lt3 : 3 < Tryd.prog.types.size := of_decide_eq_true (by kernel_rfl)
theorem reads5 : Tryd.prog.readableRec 5 = true := by kernel_rfl
theorem reads42 : Tryd.prog.readableRec 29 = true := by kernel_rfl
theorem lt5 : 5 < Tryd.prog.types.size := of_decide_eq_true (by kernel_rfl)
theorem lt42 : 29 < Tryd.prog.types.size := of_decide_eq_true (by kernel_rfl)
theorem cells_u : Tryd.prog.cellsOf 5 = 1 := by kernel_rfl
theorem bytes_u : 0 < Tryd.prog.bytesOf 5 := of_decide_eq_true (by kernel_rfl)
theorem cells_a : Tryd.prog.cellsOf 25 = 4 := by kernel_rfl
theorem cells_b : Tryd.prog.cellsOf 3 = 1 := by kernel_rfl
theorem cells_c : Tryd.prog.cellsOf 22 = 1 := by kernel_rfl
theorem cells_d : Tryd.prog.cellsOf 54 = 1 := by kernel_rfl
theorem cells_e : Tryd.prog.cellsOf 23 = 1 := by kernel_rfl
theorem cells_f : Tryd.prog.cellsOf 4 = 1 := by kernel_rfl
theorem bytes_a : 0 < Tryd.prog.bytesOf 54 := of_decide_eq_true (by kernel_rfl)
theorem bytes_b : 0 < Tryd.prog.bytesOf 3 := of_decide_eq_true (by kernel_rfl)
theorem bytes_c : 0 < Tryd.prog.bytesOf 4 := of_decide_eq_true (by kernel_rfl)
theorem openD {H : Type} {enc : TypeId × Value → H} {W : World} {v : Value} {d : DataW H} {p : List MemPlace} (hw : ∀ m ∈ d.weights Tryd.prog 25, m ≤ reachBytes) (h : DataW.Trod enc Tryd.prog W 0 (fun _ => true) true 25 v d p) : ∃ D nb fb nc fc vs, DfaIn Tryd.prog W v D nb fb nc fc vs :=
  open_dfa Tryd.underlying25 cells_a rfl rfl rfl rfl rfl rfl rfl rfl Tryd.underlying3 Tryd.underlying22 Tryd.underlying54 Tryd.underlying23 Tryd.underlying4 cells_b cells_c cells_d cells_e cells_f bytes_a bytes_b bytes_c hw h
def fillO (cs : Array Value) : Obj → Obj
  | .cells _ t frozen => .cells cs t frozen
  | o => o
theorem openW {H : Type} {enc : TypeId × Value → H} {W : World} {r : Reach} {base : Nat} {v : Value} {d : DataW H} {p : List MemPlace} (hval : Value.okWide Tryd.prog W r base 29 v) (hw : ∀ m ∈ d.weights Tryd.prog 29, m ≤ reachBytes) (h : DataW.Trod enc Tryd.prog W 0 (fun _ => true) true 29 v d p) :
    ∃ (l : List Nat) (b : Option Addr) (c : Nat), v = .slice b l.length c ∧ (Sl W b (byts l) ∧ ∀ x ∈ l, x < 256) ∧ l.length ≤ reachBytes :=
  open_word Tryd.underlying29 Tryd.underlying5 cells_u bytes_u hval hw h
noncomputable def laidWorld (os : Os) : World :=
  { World.holding Tryd.prog os ⟨#[], #[], []⟩ with heap := ((((World.holding Tryd.prog os ⟨#[], #[], []⟩).heap.modify 0 (fillO #[.int .u64 1, .int .u64 10, .int .u64 100, .int .u64 1000, .int .u64 10000, .int .u64 100000, .int .u64 1000000, .int .u64 10000000, .int .u64 100000000, .int .u64 1000000000, .int .u64 10000000000, .int .u64 100000000000, .int .u64 1000000000000, .int .u64 10000000000000, .int .u64 100000000000000, .int .u64 1000000000000000, .int .u64 10000000000000000, .int .u64 100000000000000000, .int .u64 1000000000000000000, .int .u64 10000000000000000000])).modify 1 (fillO #[.int .u8 0, .int .u8 1, .int .u8 28, .int .u8 2, .int .u8 29, .int .u8 14, .int .u8 24, .int .u8 3, .int .u8 30, .int .u8 22, .int .u8 20, .int .u8 15, .int .u8 25, .int .u8 17, .int .u8 4, .int .u8 8, .int .u8 31, .int .u8 27, .int .u8 13, .int .u8 23, .int .u8 21, .int .u8 19, .int .u8 16, .int .u8 7, .int .u8 26, .int .u8 12, .int .u8 18, .int .u8 6, .int .u8 11, .int .u8 5, .int .u8 10, .int .u8 9])).modify 2 (fillO #[.int .u8 0, .int .u8 1, .int .u8 56, .int .u8 2, .int .u8 57, .int .u8 49, .int .u8 28, .int .u8 3, .int .u8 61, .int .u8 58, .int .u8 42, .int .u8 50, .int .u8 38, .int .u8 29, .int .u8 17, .int .u8 4, .int .u8 62, .int .u8 47, .int .u8 59, .int .u8 36, .int .u8 45, .int .u8 43, .int .u8 51, .int .u8 22, .int .u8 53, .int .u8 39, .int .u8 33, .int .u8 30, .int .u8 24, .int .u8 18, .int .u8 12, .int .u8 5, .int .u8 63, .int .u8 55, .int .u8 48, .int .u8 27, .int .u8 60, .int .u8 41, .int .u8 37, .int .u8 16, .int .u8 46, .int .u8 35, .int .u8 44, .int .u8 21, .int .u8 52, .int .u8 32, .int .u8 23, .int .u8 11, .int .u8 54, .int .u8 26, .int .u8 40, .int .u8 15, .int .u8 34, .int .u8 20, .int .u8 31, .int .u8 10, .int .u8 25, .int .u8 14, .int .u8 19, .int .u8 9, .int .u8 13, .int .u8 8, .int .u8 7, .int .u8 6])) }
theorem tabOf {W : World} (hL : laidMetH Tryd.prog [("math/bits.deBruijn32tab", Rows.laid_math_bits_deBruijn32tab), ("math/bits.deBruijn64tab", Rows.laid_math_bits_deBruijn64tab), ("internal/strconv.uint64pow10", Rows.laid_internal_strconv_uint64pow10)] W) : Tab Tryd.prog W := by
  have h : laidMet Tryd.prog [("math/bits.deBruijn32tab", Rows.laid_math_bits_deBruijn32tab), ("math/bits.deBruijn64tab", Rows.laid_math_bits_deBruijn64tab), ("internal/strconv.uint64pow10", Rows.laid_internal_strconv_uint64pow10)] W := hL
  obtain ⟨ps, h, _⟩ := h
  obtain ⟨_, h⟩ := laidVars_tail h
  obtain ⟨_, h⟩ := laidVars_tail h
  exact Tab.of (tabIs_of_vars (g := 0) (t := 145) (e := 137) (n := 20) (by kernel_rfl) (by kernel_rfl) (by kernel_rfl) Tryd.underlying145 Tryd.underlying137 (by kernel_rfl) (by kernel_rfl) h)
end Go.Proofs.YtnpehjpookcfkaaDoor

namespace Go.Lx
open Go.RowKit Go.ChangeShapes Go.WideShapes Go.Deep
set_option linter.unusedVariables false
section
variable {H : Type} {enc : TypeId × Value → H} {P : Program}
theorem open_two {t tD : TypeId} {f0 f1 : Field} {W : World} {cs : List Value} {fuel : Nat} {x : DataW H × List MemPlace} {k : Nat}
    (ht : P.underlying t = some (.struct #[f0, f1])) (hc : P.cellsOf t = k + k) (hk : P.cellsOf tD = k) (h0 : f0.type = tD) (h1 : f1.type = tD) (o0 : f0.offset = 0) (o1 : f1.offset = k) (hw : ∀ m ∈ x.1.weights P t, m ≤ reachBytes)
    (h : DataW.trod enc P W 0 (fun _ => true) true fuel t cs = some x) :
    ∃ (l0 l1 : List Value) (d0 d1 : DataW H) (p0 p1 : List MemPlace), cs = l0 ++ l1 ∧ DataW.Trod enc P W 0 (fun _ => true) true tD (.agg l0.toArray) d0 p0 ∧ DataW.Trod enc P W 0 (fun _ => true) true tD (.agg l1.toArray) d1 p1 ∧ (∀ m ∈ d0.weights P tD, m ≤ reachBytes) ∧ (∀ m ∈ d1.weights P tD, m ≤ reachBytes) := by
  obtain ⟨xs, n, rfl, hx, hlen, hxl, hfs⟩ := DataW.trod_struct ht h
  rw [hc] at hlen
  obtain ⟨x0, x1, rfl⟩ : ∃ a b, xs = [a, b] := by
    match xs, hxl with
    | [a, b], _ => exact ⟨a, b, rfl⟩
  have g0 := hfs 0 f0 rfl
  have g1 := hfs 1 f1 rfl
  rw [h0, o0, hk] at g0
  rw [h1, o1, hk] at g1
  subst hx
  have hwe : (DataW.agg ([x0, x1].map (·.1))).weights P t = DataW.weightsEach P [tD, tD] [x0.1, x1.1] := by
    rw [DataW.weights, ht]
    simp [h0, h1]
  rw [hwe] at hw
  have e0 : (cs.drop 0).take k = cs.take k := rfl
  have e1 : (cs.drop k).take k = cs.drop k := List.take_of_length_le (by rw [List.length_drop]; omega)
  refine ⟨cs.take k, cs.drop k, x0.1, x1.1, x0.2, x1.2, (List.take_append_drop k cs).symm, ⟨n, ?_⟩, ⟨n, ?_⟩, fun m hm => hw m (DataW.weights_mem_each (j := 0) rfl rfl m hm), fun m hm => hw m (DataW.weights_mem_each (j := 1) rfl rfl m hm)⟩
  · show DataW.trod enc P W 0 (fun _ => true) true n tD (cs.take k) = some (x0.1, x0.2)
    rw [← e0]; exact g0
  · show DataW.trod enc P W 0 (fun _ => true) true n tD (cs.drop k) = some (x1.1, x1.2)
    rw [← e1]; exact g1
theorem open_arr {t e : TypeId} {n k : Nat} {W : World} {v : Value} {d : DataW H} {p : List MemPlace}
    (ht : P.underlying t = some (.array n e)) (hc : P.cellsOf t = n * k) (hk : P.cellsOf e = k) (hw : ∀ m ∈ d.weights P t, m ≤ reachBytes)
    (h : DataW.Trod enc P W 0 (fun _ => true) true t v d p) :
    v.cells.toList.length = n * k ∧ ∀ i, i < n → ∃ (fuel : Nat) (x : DataW H × List MemPlace), DataW.trod enc P W 0 (fun _ => true) true fuel e ((v.cells.toList.drop (i * k)).take k) = some x ∧ ∀ m ∈ x.1.weights P e, m ≤ reachBytes := by
  obtain ⟨fuel, hT⟩ := h
  obtain ⟨xs, m, rfl, hx, hlen, hxl, hfs⟩ := DataW.trod_array ht hT
  refine ⟨by rw [hlen, hc], fun i hi => ?_⟩
  have g := hfs i hi
  rw [hk, List.getElem?_eq_getElem (by omega)] at g
  refine ⟨m, xs[i]'(by omega), g, ?_⟩
  have hd : d = .agg (xs.map (·.1)) := congrArg Prod.fst hx
  intro y hy
  refine hw y ?_
  rw [hd, DataW.weights, ht]
  exact weights_all e (List.mem_map_of_mem (List.getElem_mem _)) y hy
end
end Go.Lx
namespace Go.Lx
theorem agg_of {v : Value} {l : List Value} (h : v.cells.toList = l) (h2 : l.length ≠ 1) : v = .agg l.toArray := by
  have hsz : v.cells.size = l.length := by rw [← Array.length_toList, h]
  cases v with
  | agg cs =>
    have : cs.toList = l := h
    rw [← Array.toArray_toList (xs := cs), this]
  | _ => simp [Value.cells] at hsz; omega
theorem split2 {cs : List Value} {k : Nat} (h : cs.length = 2 * k) : cs = (cs.drop (0 * k)).take k ++ (cs.drop (1 * k)).take k := by
  have e1 : (cs.drop (1 * k)).take k = cs.drop k := by rw [Nat.one_mul]; exact List.take_of_length_le (by rw [List.length_drop]; omega)
  rw [e1, Nat.zero_mul, List.drop_zero, List.take_append_drop]
theorem split3 {cs : List Value} {k : Nat} (h : cs.length = 3 * k) : cs = (cs.drop (0 * k)).take k ++ ((cs.drop (1 * k)).take k ++ (cs.drop (2 * k)).take k) := by
  have e1 : (cs.drop (2 * k)).take k = (cs.drop k).drop k := by rw [List.drop_drop, Nat.two_mul]; exact List.take_of_length_le (by rw [List.length_drop]; omega)
  rw [e1, Nat.zero_mul, List.drop_zero, Nat.one_mul, List.take_append_drop, List.take_append_drop]
end Go.Lx

namespace Go.Proofs.YtnpehjpookcfkaaDoor
open Go.ChangeShapes Go.WideShapes Go.ChangeAt Go.RowKit Go.Lx
set_option maxRecDepth 100000
theorem cells_C : Tryd.prog.cellsOf 27 = 4 + 4 := by kernel_rfl
abbrev Bnd (a : DFA) : Prop := a.next.length < 9223372036854775807 ∧ (∀ r ∈ a.next, r.length < 9223372036854775807) ∧ a.final.length < 9223372036854775807
structure ConIn (W : World) (a g : DFA) (j k : DK) : Prop where
  at1 : At W a j
  at2 : At W g k
  b1 : Bnd a
  b2 : Bnd g
theorem DfaIn.dk {W : World} {v : Value} {d : DFA} {nb fb : Option Addr} {nc fc : Nat} {vs : List Value} (h : DfaIn Tryd.prog W v d nb fb nc fc vs) : ∃ j : DK, v = .agg (dC d j).toArray ∧ At W d j ∧ Bnd d := by
  obtain ⟨j, g, e⟩ := h.at_.dk nc fc
  exact ⟨j, by rw [h.val, e], g, lt63 h.n, fun r hr => lt63 (h.r r hr), lt63 h.f⟩
section
variable {H : Type} {enc : TypeId × Value → H} {W : World}
theorem openCC {cs : List Value} {fuel : Nat} {x : DataW H × List MemPlace} (hw : ∀ m ∈ x.1.weights Tryd.prog 27, m ≤ reachBytes) (h : DataW.trod enc Tryd.prog W 0 (fun _ => true) true fuel 27 cs = some x) : ∃ (a g : DFA) (j k : DK), cs = cC a g j k ∧ ConIn W a g j k := by
  obtain ⟨l0, l1, d0, d1, p0, p1, rfl, t0, t1, w0, w1⟩ := open_two Tryd.underlying27 cells_C cells_a rfl rfl rfl rfl hw h
  obtain ⟨D0, nb0, fb0, nc0, fc0, vs0, h0⟩ := openD w0 t0
  obtain ⟨D1, nb1, fb1, nc1, fc1, vs1, h1⟩ := openD w1 t1
  obtain ⟨j0, e0, a0, b0⟩ := DfaIn.dk h0
  obtain ⟨j1, e1, a1, b1⟩ := DfaIn.dk h1
  have f0 : l0 = dC D0 j0 := by simpa using e0
  have f1 : l1 = dC D1 j1 := by simpa using e1
  subst f0 f1
  exact ⟨D0, D1, j0, j1, rfl, a0, a1, b0, b1⟩
theorem openCon {v : Value} {d : DataW H} {p : List MemPlace} (hw : ∀ m ∈ d.weights Tryd.prog 27, m ≤ reachBytes) (h : DataW.Trod enc Tryd.prog W 0 (fun _ => true) true 27 v d p) : ∃ (a g : DFA) (j k : DK), v = .agg (cC a g j k).toArray ∧ ConIn W a g j k := by
  obtain ⟨fuel, h⟩ := h
  obtain ⟨a, g, j, k, e, hc⟩ := openCC (x := (d, p)) hw h
  exact ⟨a, g, j, k, agg_of e (show (8 : Nat) ≠ 1 by decide), hc⟩
theorem openA2C {v : Value} {d : DataW H} {p : List MemPlace} (hw : ∀ m ∈ d.weights Tryd.prog 28, m ≤ reachBytes) (h : DataW.Trod enc Tryd.prog W 0 (fun _ => true) true 28 v d p) : ∃ (a g : DFA) (j k : DK) (a2 g2 : DFA) (j2 k2 : DK), v = .agg (cC a g j k ++ cC a2 g2 j2 k2).toArray ∧ ConIn W a g j k ∧ ConIn W a2 g2 j2 k2 := by
  obtain ⟨hl, hh⟩ := open_arr Tryd.underlying28 (show Tryd.prog.cellsOf 28 = 2 * 8 by kernel_rfl) cells_C hw h
  obtain ⟨f0, x0, t0, w0⟩ := hh 0 (by decide)
  obtain ⟨f1, x1, t1, w1⟩ := hh 1 (by decide)
  obtain ⟨a, g, j, k, e, hc⟩ := openCC w0 t0
  obtain ⟨a2, g2, j2, k2, e2, hc2⟩ := openCC w1 t1
  exact ⟨a, g, j, k, a2, g2, j2, k2, agg_of ((split2 hl).trans (by rw [e, e2])) (show (16 : Nat) ≠ 1 by decide), hc, hc2⟩
theorem openA3C {v : Value} {d : DataW H} {p : List MemPlace} (hw : ∀ m ∈ d.weights Tryd.prog 40, m ≤ reachBytes) (h : DataW.Trod enc Tryd.prog W 0 (fun _ => true) true 40 v d p) : ∃ (a g : DFA) (j k : DK) (a2 g2 : DFA) (j2 k2 : DK) (a3 g3 : DFA) (j3 k3 : DK), v = .agg (cC a g j k ++ (cC a2 g2 j2 k2 ++ cC a3 g3 j3 k3)).toArray ∧ ConIn W a g j k ∧ ConIn W a2 g2 j2 k2 ∧ ConIn W a3 g3 j3 k3 := by
  obtain ⟨hl, hh⟩ := open_arr Tryd.underlying40 (show Tryd.prog.cellsOf 40 = 3 * 8 by kernel_rfl) cells_C hw h
  obtain ⟨f0, x0, t0, w0⟩ := hh 0 (by decide)
  obtain ⟨f1, x1, t1, w1⟩ := hh 1 (by decide)
  obtain ⟨f2, x2, t2, w2⟩ := hh 2 (by decide)
  obtain ⟨a, g, j, k, e, hc⟩ := openCC w0 t0
  obtain ⟨a2, g2, j2, k2, e2, hc2⟩ := openCC w1 t1
  obtain ⟨a3, g3, j3, k3, e3, hc3⟩ := openCC w2 t2
  exact ⟨a, g, j, k, a2, g2, j2, k2, a3, g3, j3, k3, agg_of ((split3 hl).trans (by rw [e, e2, e3])) (show (24 : Nat) ≠ 1 by decide), hc, hc2, hc3⟩
theorem openA2D {v : Value} {d : DataW H} {p : List MemPlace} (hw : ∀ m ∈ d.weights Tryd.prog 51, m ≤ reachBytes) (h : DataW.Trod enc Tryd.prog W 0 (fun _ => true) true 51 v d p) : ∃ (a g : DFA) (j k : DK), v = .agg (dC a j ++ dC g k).toArray ∧ ConIn W a g j k := by
  obtain ⟨hl, hh⟩ := open_arr Tryd.underlying51 (show Tryd.prog.cellsOf 51 = 2 * 4 by kernel_rfl) cells_a hw h
  obtain ⟨f0, x0, t0, w0⟩ := hh 0 (by decide)
  obtain ⟨f1, x1, t1, w1⟩ := hh 1 (by decide)
  obtain ⟨D0, nb0, fb0, nc0, fc0, vs0, h0⟩ := openD (v := .agg ((v.cells.toList.drop (0 * 4)).take 4).toArray) w0 ⟨f0, t0⟩
  obtain ⟨D1, nb1, fb1, nc1, fc1, vs1, h1⟩ := openD (v := .agg ((v.cells.toList.drop (1 * 4)).take 4).toArray) w1 ⟨f1, t1⟩
  obtain ⟨j0, e0, a0, b0⟩ := DfaIn.dk h0
  obtain ⟨j1, e1, a1, b1⟩ := DfaIn.dk h1
  have f0 : (v.cells.toList.drop (0 * 4)).take 4 = dC D0 j0 := by simpa using e0
  have f1 : (v.cells.toList.drop (1 * 4)).take 4 = dC D1 j1 := by simpa using e1
  exact ⟨D0, D1, j0, j1, agg_of ((split2 hl).trans (by rw [f0, f1])) (show (8 : Nat) ≠ 1 by decide), a0, a1, b0, b1⟩
theorem reads_c : Tryd.prog.readableRec 27 = true := by kernel_rfl
theorem lt_c : 27 < Tryd.prog.types.size := of_decide_eq_true (by kernel_rfl)
theorem reads_A2D : Tryd.prog.readableRec 51 = true := by kernel_rfl
theorem lt_A2D : 51 < Tryd.prog.types.size := of_decide_eq_true (by kernel_rfl)
theorem reads_A2C : Tryd.prog.readableRec 28 = true := by kernel_rfl
theorem lt_A2C : 28 < Tryd.prog.types.size := of_decide_eq_true (by kernel_rfl)
theorem reads_A3C : Tryd.prog.readableRec 40 = true := by kernel_rfl
theorem lt_A3C : 40 < Tryd.prog.types.size := of_decide_eq_true (by kernel_rfl)
end
end Go.Proofs.YtnpehjpookcfkaaDoor

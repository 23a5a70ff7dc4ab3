/- Contracts of functions of the program (Ze, Zx, Z0, Close, CloseY, End): what each call answers and that it leaves memory as it was. Conditions: those each theorem names. -/
import Derived.Test.YtnikhiohindggaaDoorYm
import Derived.Test.YtnikhiohindggaaDoorZb
import Derived.Test.YtnikhiohindggaaDoorZw
import Derived.Test.YtnikhiohindggaaDoorZv
import Derived.Test.YtnikhiohindggaaDoorCoreL
import Derived.Test.YtnikhiohindggaaDoorTar
import Derived.OpenShut
import Derived.Deep.DeepHandedRow
import Derived.Deep.Matrix
import Derived.Deep.Grids
import Derived.WideKeyArgs
import Derived.SizedLaws
import Derived.Deep.Slices
import Derived.Test.YtnikhiohindggaaDoorCards
import Derived.Test.YtnikhiohindggaaDoorTie
import Derived.WalkKit
import Derived.ProofKit
import Derived.Lib.LaidTab
set_option linter.unusedSectionVars false
set_option linter.unusedSimpArgs false
set_option linter.unusedVariables false
set_option linter.unnecessarySimpa false
set_option maxHeartbeats 8000000
set_option maxRecDepth 20000
namespace Go.Lx
def EB (d : DFA) (u v : Nat) : Bool := decide (u < d.next.length) && (List.range (letN d)).any fun x => decide (toN d u x = v)
def wB (E : Nat → Nat → Bool) : Nat → Nat → Nat → Bool
 | 0, a, b => E a b
 | k + 1, a, b => wB E k a b || (wB E k a k && wB E k k b)
theorem wB_iff {E : Nat → Nat → Bool} : ∀ {k a b : Nat}, wB E k a b = true ↔ wN (fun u v => E u v = true) k a b
 | 0, _, _ => Iff.rfl
 | k + 1, a, b => by
  show (wB E k a b || (wB E k a k && wB E k k b)) = true ↔ _
  rw [Bool.or_eq_true, Bool.and_eq_true, wB_iff, wB_iff, wB_iff]; exact Iff.rfl
def inBE (E : Nat → Nat → Bool) (S : Nat → Bool) (u v : Nat) : Bool := E u v && (S u && S v)
def cmB (n : Nat) (E : Nat → Nat → Bool) (S : Nat → Bool) (v u : Nat) : Bool := wB (inBE E S) n v u && wB (inBE E S) n u v
def mxC (n : Nat) (f : Nat → Nat) (C : Nat → Bool) : Nat := mxP f ((List.range n).filter C)
def chkR (n : Nat) (E : Nat → Nat → Bool) (pr f : Nat → Nat) : Nat → (Nat → Bool) → Bool
 | 0, S => (List.range n).all fun v => !S v
 | t + 1, S => (List.range n).all fun v => !S v || (if wB (inBE E S) n v v = true then
   (chkR n E pr f t (fun u => cmB n E S v u && decide (pr u < mxC n pr (cmB n E S v))) && (decide (pr v ≠ mxC n pr (cmB n E S v)) || decide (f v = mxC n f (fun u => cmB n E S v u && decide (pr u < mxC n pr (cmB n E S v))) + (mxC n f (fun u => cmB n E S v u && decide (pr u < mxC n pr (cmB n E S v))) + mxC n pr (cmB n E S v)) % 2)))
   else decide (f v = 0))
theorem mxC_is {n : Nat} {f : Nat → Nat} {C : Nat → Bool} (h : ∀ u, C u = true → u < n) (hne : ∃ u, C u = true) : IsMax f (fun u => C u = true) (mxC n f C) := by
 have hl : (List.range n).filter C ≠ [] := fun e => by
  obtain ⟨u, hu⟩ := hne
  have : u ∈ (List.range n).filter C := List.mem_filter.2 ⟨List.mem_range.2 (h u hu), hu⟩
  rw [e] at this; cases this
 have e : (fun u => C u = true) = fun u => u ∈ (List.range n).filter C := funext fun u => propext ⟨fun hu => List.mem_filter.2 ⟨List.mem_range.2 (h u hu), hu⟩, fun hu => (List.mem_filter.1 hu).2⟩
 rw [e]; exact mxP_is hl
theorem mxC_max0 {n : Nat} {f : Nat → Nat} {C : Nat → Bool} (h : ∀ u, C u = true → u < n) : Max0 f (fun u => C u = true) (mxC n f C) := by
 by_cases hne : ∃ u, C u = true
 ·obtain ⟨⟨u, hu, e⟩, h2⟩ := mxC_is (f := f) h hne
  exact ⟨h2, .inr ⟨u, hu, e⟩⟩
 ·have hl : (List.range n).filter C = [] := List.filter_eq_nil_iff.2 fun u _ hu => hne ⟨u, hu⟩
  exact ⟨fun u hu => absurd ⟨u, hu⟩ hne, .inl (by unfold mxC; rw [hl]; rfl)⟩
theorem chkR_red {n : Nat} {E : Nat → Nat → Bool} {pr f : Nat → Nat} (hE : ∀ u v, E u v = true → v < n) : ∀ (t : Nat) (S : Nat → Bool), (∀ v, S v = true → v < n) → chkR n E pr f t S = true → IsRed (fun u v => E u v = true) pr f (fun v => S v = true)
 | 0, S, hS, h => by
  have hno : ∀ v, ¬ S v = true := fun v hv => by
   have := List.all_eq_true.1 h v (List.mem_range.2 (hS v hv))
   rw [hv] at this; cases this
  exact .mk (fun v hv => absurd hv (hno v)) (fun v hv => absurd hv (hno v)) (fun v hv => absurd hv (hno v))
 | t + 1, S, hS, h => by
  have hin : (fun u v => inBE E S u v = true) = InS (fun u v => E u v = true) (fun v => S v = true) := funext fun u => funext fun v => propext (by unfold inBE InS; simp [Bool.and_eq_true])
  have hpp : ∀ a b, wB (inBE E S) n a b = true ↔ Pp (InS (fun u v => E u v = true) fun v => S v = true) a b := fun a b => by
   rw [wB_iff, hin]
   exact ⟨wN_pp, pp_wN fun u v e => hS v e.2.2⟩
  have hcm : ∀ v, S v = true → Cyc (fun u v => E u v = true) (fun v => S v = true) v → Cmp (fun u v => E u v = true) (fun v => S v = true) v = fun u => cmB n E S v u = true := fun v hv hc => funext fun u => propext (by
   rw [cmp_pp hv hc]; unfold cmB; rw [Bool.and_eq_true, hpp, hpp])
  have at_ := fun v (hv : S v = true) => List.all_eq_true.1 h v (List.mem_range.2 (hS v hv))
  have hlt : ∀ v, S v = true → ∀ u, cmB n E S v u = true → u < n := fun v hv u hu => by
   unfold cmB at hu
   rw [Bool.and_eq_true] at hu
   obtain ⟨c, h1, h2⟩ := (hpp v u).1 hu.1
   obtain ⟨d, h3, _⟩ := (hpp u v).1 hu.2
   exact hS u h3.2.1
  have main : ∀ v, S v = true → Cyc (fun u v => E u v = true) (fun v => S v = true) v → ∀ m, IsMax pr (Cmp (fun u v => E u v = true) (fun v => S v = true) v) m → mxC n pr (cmB n E S v) = m ∧ chkR n E pr f t (fun u => cmB n E S v u && decide (pr u < m)) = true ∧ (pr v = m → f v = mxC n f (fun u => cmB n E S v u && decide (pr u < m)) + (mxC n f (fun u => cmB n E S v u && decide (pr u < m)) + m) % 2) := fun v hv hc m hm => by
   have h1 := at_ v hv
   have hvv : wB (inBE E S) n v v = true := (hpp v v).2 hc
   rw [if_pos hvv] at h1
   have hcmv := hcm v hv hc
   rw [hcmv] at hm
   have hself : cmB n E S v v = true := by unfold cmB; rw [hvv]; rfl
   have hmx := (mxC_is (f := pr) (hlt v hv) ⟨v, hself⟩).unique hm
   rw [hmx] at h1
   have hns : (!S v) = false := by rw [hv]; rfl
   rw [hns, Bool.false_or, Bool.and_eq_true, Bool.or_eq_true, decide_eq_true_eq, decide_eq_true_eq] at h1
   exact ⟨hmx, h1.1, fun e => h1.2.elim (fun g => absurd e g) id⟩
  have hR : ∀ v, S v = true → Cyc (fun u v => E u v = true) (fun v => S v = true) v → ∀ m, (fun u => Cmp (fun u v => E u v = true) (fun v => S v = true) v u ∧ pr u < m) = fun u => (cmB n E S v u && decide (pr u < m)) = true := fun v hv hc m => by
   rw [hcm v hv hc]
   exact funext fun u => propext (by rw [Bool.and_eq_true, decide_eq_true_eq])
  have hlt2 : ∀ v, S v = true → ∀ m u, (cmB n E S v u && decide (pr u < m)) = true → u < n := fun v hv m u hu => hlt v hv u (by rw [Bool.and_eq_true] at hu; exact hu.1)
  refine .mk (fun v hv hc => ?_) (fun v hv hc m hm => ?_) (fun v hv hc m k hm hpv hk => ?_)
  ·have h1 := at_ v hv
   rw [if_neg (fun g => hc ((hpp v v).1 g)), hv] at h1
   exact of_decide_eq_true h1
  ·obtain ⟨_, h2, _⟩ := main v hv hc m hm
   rw [hR v hv hc m]
   exact chkR_red hE t _ (hlt2 v hv m) h2
  ·obtain ⟨_, _, h3⟩ := main v hv hc m hm
   rw [hR v hv hc m] at hk
   obtain rfl := hk.unique (mxC_max0 (hlt2 v hv m))
   exact h3 hpv
theorem redOf_chk {p : Par} (hp : ValidP p) {f : Nat → Nat} (t : Nat) (h : chkR p.next.length (EB p.d) (prN p) f t (fun v => decide (v < p.next.length)) = true) : RedOf p f := by
 have e1 : (fun u v => EB p.d u v = true) = PEd p := funext fun u => funext fun v => propext (by
  unfold EB PEd
  rw [Bool.and_eq_true, decide_eq_true_eq, List.any_eq_true]
  refine and_congr Iff.rfl ⟨fun ⟨x, h1, h2⟩ => ⟨x, List.mem_range.1 h1, of_decide_eq_true h2⟩, fun ⟨x, h1, h2⟩ => ⟨x, List.mem_range.2 h1, decide_eq_true h2⟩⟩)
 have e2 : (fun v => decide (v < p.next.length) = true) = StS p := funext fun v => propext (by rw [decide_eq_true_eq]; exact Iff.rfl)
 have h1 := chkR_red (n := p.next.length) (E := EB p.d) (pr := prN p) (f := f) (fun u v e => by
  rw [show (EB p.d u v = true) = PEd p u v from congrFun (congrFun e1 u) v] at e
  exact e.lt hp) t _ (fun v hv => of_decide_eq_true hv) h
 rw [e1, e2] at h1
 exact ⟨h1⟩
def zerosP : Par := ⟨1, 0, [[0, 1], [0, 1]], [2, 3]⟩
def lz : La := ⟨[1, 1], [0]⟩
def lb : La := ⟨[], [0, 1]⟩
theorem zeros_ok : checkP zerosP = 0 := by decide +kernel
theorem zeros_v : ValidP zerosP := checkP_zero.1 zeros_ok
theorem inf_of {p : Par} {l : La} (h : 0 < l.loop.length) {s0 j m k : Nat} (hs : runN p.d p.d.start.toNat l.pre = s0) (hm : 0 < m) (he : orbN p.d l.loop s0 (j + m) = orbN p.d l.loop s0 j) (ht : topP p (orbN p.d l.loop s0 j) (repL l.loop m) = k) : infP p l.at = k := by
 subst hs; subst ht
 exact infP_eq (lasso_inf h rfl hm he)
theorem zeros_lz : infP zerosP lz.at = 2 := inf_of (s0 := 1) (j := 1) (m := 1) (by decide) (by decide +kernel) (by decide) (by decide +kernel) (by decide +kernel)
theorem zeros_lb : infP zerosP lb.at = 3 := inf_of (s0 := 0) (j := 1) (m := 1) (by decide) (by decide +kernel) (by decide) (by decide +kernel) (by decide +kernel)
def coZ : Par := ⟨1, 0, [[0, 1], [0, 1]], [3, 4]⟩
theorem zeros_co : coE zerosP = 0 ∧ coV zerosP = coZ := by
 have e : coE zerosP = 0 := by decide +kernel
 refine ⟨e, ?_⟩
 unfold coV
 rw [if_pos e]; rfl
theorem co_ok : checkP coZ = 0 := by decide +kernel
theorem co_v : ValidP coZ := checkP_zero.1 co_ok
theorem co_lz : infP coZ lz.at = 3 := inf_of (s0 := 1) (j := 1) (m := 1) (by decide) (by decide +kernel) (by decide) (by decide +kernel) (by decide +kernel)
theorem co_lb : infP coZ lb.at = 4 := inf_of (s0 := 0) (j := 1) (m := 1) (by decide) (by decide +kernel) (by decide) (by decide +kernel) (by decide +kernel)
theorem zeros_red : RedOf zerosP (fun s => s % 2) := redOf_chk zeros_v 3 (by decide +kernel)
theorem zeros_rd : (rdV zerosP).prio = [0, 1] := by rw [rdV_of zeros_ok zeros_red]; rfl
theorem lz_ok : LasOk zerosP lz := ⟨by decide, fun x hx => (show ∀ x ∈ lz.pre, x < letN zerosP.d by decide) x hx, fun x hx => (show ∀ x ∈ lz.loop, x < letN zerosP.d by decide) x hx⟩
theorem zeros_differ : differP zerosP coZ := diff_complete zeros_v co_v rfl (by decide) lz_ok (by rw [zeros_lz, co_lz]; decide)
def qZ : Par := ⟨1, 0, [[1, 1], [0, 0]], [1, 1]⟩
theorem qZ_ok : checkP qZ = 0 := by decide +kernel
theorem qZ_v : ValidP qZ := checkP_zero.1 qZ_ok
theorem qZ_bis : BisB qZ (fun _ _ => true) := fun s t hs ht => by
 refine ⟨fun _ => ?_, fun _ => rfl⟩
 refine bis_of (R := fun s t => s < qZ.next.length ∧ t < qZ.next.length) (fun s t h => ?_) (fun s t x h hx => ⟨(qZ_v.val.toN_lt h.1 hx).1, (qZ_v.val.toN_lt h.2 hx).1⟩) ⟨hs, ht⟩
 have h1 : ∀ s, s < 2 → prN qZ s = 1 := by decide +kernel
 rw [h1 s h.1, h1 t h.2]
theorem qZ_quo : quoV qZ = oneP 1 := by rw [quoV_of qZ_ok qZ_bis]; decide +kernel
end Go.Lx


namespace Go.Proofs.YtnikhiohindggaaDoor
open Go.Lx Go.RowKit _root_.Go.Proofs.Tryd
theorem zerosK (w : World) [Tab Tryd.prog w] : PureT Tryd.prog 38 [] w fun v N => ∃ k' : DK, v = pV zerosP k' ∧ N = [pI 23 3 zerosP k'] := by
 refine CallT.enter func38 rfl ntmps38 rfl ?_
 refine T.s (T.rg (TO.l rfl (l_alloc inf25 rfl (fun z1 => ?_))))
 refine TO.nl (T.s (T.rg (TO.l rfl (l_buildSlice (m := 2) (parts := [(0, .const (vI 0)), (1, .const (vI 1))]) (cs := [vI 0, vI 1]) uT23 inf3 (by decide) (by kernel_rfl) rfl (fun z2 => ?_)))))
 refine TO.l rfl (l_buildSlice (m := 2) (parts := [(0, .const (vI 0)), (1, .const (vI 1))]) (cs := [vI 0, vI 1]) uT23 inf3 (by decide) (by kernel_rfl) rfl (fun z3 => ?_))
 refine TO.l rfl (l_buildSlice (m := 2) (parts := [(0, .tmp 1), (1, .tmp 2)]) (cs := [(.slice (aD z2) 2 2), (.slice (aD z3) 2 2)]) uT22 inf23 (by decide) (by kernel_rfl) rfl (fun z4 => ?_))
 refine TO.l rfl (l_buildSlice (m := 2) (parts := [(0, .const (vI 2)), (1, .const (vI 3))]) (cs := [vI 2, vI 3]) uT23 inf3 (by decide) (by kernel_rfl) rfl (fun z5 => ?_))
 refine TO.q (q_build (cs := [vI 1, (vI 0), (.slice (aD z4) 2 2), (.slice (aD z5) 2 2)]) plan25 inf25 (by kernel_rfl)) (TO.l rfl (l_sb (v := (.agg #[vI 1, (vI 0), (.slice (aD z4) 2 2), (.slice (aD z5) 2 2)])) (vs := [vI 1, (vI 0), (.slice (aD z4) 2 2), (.slice (aD z5) 2 2)]) 4 inf25 rfl rfl rfl rfl rfl rfl (by simp [putL]) ?_))
 refine TO.nl ?_
 refine T.sub (O' := [rowI (aD z4) 2 23 1 [(.slice (aD z2) 2 2), (.slice (aD z3) 2 2)], rowI (aD z5) 2 3 1 [vI 2, vI 3], rowI (aD z2) 2 3 1 [vI 0, vI 1], rowI (aD z3) 2 3 1 [vI 0, vI 1], oI z1 25 [vI 1, (vI 0), (.slice (aD z4) 2 2), (.slice (aD z5) 2 2)]]) (Sub.pick [1, 0, 1, 0, 0] rfl) ?_
 obtain ⟨k0, hk0⟩ : ∃ k : DK, k = ⟨some ⟨z4, 0, none⟩, 2, some ⟨z5, 0, none⟩, 2, [⟨some ⟨z2, 0, none⟩, 2, [0, 1]⟩, ⟨some ⟨z3, 0, none⟩, 2, [0, 1]⟩]⟩ := ⟨_, rfl⟩
 refine T.sub (O' := (([rowI k0.nb k0.nc 23 1 (vals k0.qs), rowI k0.fb k0.fc 3 1 (ints zerosP.prio)] ++ itms 3 k0.qs) ++ [oI z1 25 [vI 1, (vI 0), (.slice (aD z4) 2 2), (.slice (aD z5) 2 2)]])) (by subst hk0; exact Sub.rf) ?_
 refine T.pack (φ := nums k0.qs = zerosP.next) (by subst hk0; rfl) ?_
 refine T.sub (O' := [pI 23 3 zerosP k0, oI z1 25 (pC zerosP k0)]) (by subst hk0; exact Sub.rf) ?_
 refine T.ret (Res.drop ?_)
 refine Res.cell1 (i := 1) Tryd.results38 uT25 rfl inf25 rfl rfl rfl ?_
 exact ⟨[pI 23 3 zerosP k0], (Sub.pick [0] rfl), k0, rfl, rfl⟩
theorem RowsR.two {w : World} {b1 b2 : Option Addr} {c1 c2 n1 n2 : Nat} {r1 r2 : List Int} (h1 : Sl w b1 (ints r1)) (h2 : Sl w b2 (ints r2)) (e1 : r1.length = n1) (e2 : r2.length = n2) : RowsR w [.slice b1 n1 c1, .slice b2 n2 c2] [r1, r2] := by
 subst e1; subst e2
 refine ⟨rfl, fun i r hr => ?_⟩
 match i with
 | 0 => simp at hr; subst hr; exact ⟨b1, c1, rfl, h1⟩
 | 1 => simp at hr; subst hr; exact ⟨b2, c2, rfl, h2⟩
 | i + 2 => simp at hr
theorem coZ_prio : coZ.prio = [3, 4] := rfl
theorem lz_e : ruE zerosP lz = 0 := by decide +kernel
theorem lb_e : ruE zerosP lb = 0 := by decide +kernel
theorem lb_e2 : ruE coZ lb = 0 := by decide +kernel
theorem aw_a : acB zerosP lz = true := decide_eq_true ⟨lz_e, by unfold ruV; rw [if_pos lz_e, zeros_lz]⟩
theorem aw_b : acB zerosP lb = false := decide_eq_false fun h => by
 have h2 := h.2
 unfold ruV at h2
 rw [if_pos lb_e, zeros_lb] at h2; exact absurd h2 (by decide)
theorem aw_n : ruV coZ lb = 4 := by unfold ruV; rw [if_pos lb_e2, co_lb]
theorem lz_B : LaB lz := ⟨by decide, by decide, by decide, by decide⟩
theorem lb_B : LaB lb := ⟨by decide, by decide, by decide, by decide⟩
theorem aw_d0 : diE zerosP coZ = 0 := diE_zero.2 ⟨zeros_v, co_v, rfl⟩
theorem aw_dif {l : La} {b : Bool} {e : Nat} (h : DiR zerosP coZ l b e) : b = true ∧ e = 0 ∧ 0 < l.loop.length := by
 rcases h with ⟨h, _⟩ | ⟨_, h1, h2, i, j, _, _, _, pre, loop, _, hc⟩ | ⟨_, _, _, _, h⟩
 ·exact absurd aw_d0 h
 ·exact ⟨h2, h1, hc.can.pos⟩
 ·exact absurd zeros_differ h
theorem awDif (w : World) [Tab Tryd.prog w] [Tab Tryd.prog w] (k : DK) (h : AtP w zerosP k) (k2 : DK) (h2 : AtP w coZ k2) :
  PureT Tryd.prog 29 [pV zerosP k, pV coZ k2] w fun v N => ∃ (l : La) (kl : LK), v = .tuple #[lV l kl, .bool true, vI 0] ∧ N = [lI 5 l kl] ∧ 0 < l.loop.length :=
 CallT.mono (parDif w zerosP k h coZ k2 h2 zeros_v.c co_v.c (fun _ => by decide)) fun v N ⟨l, kl, b, e, hv, hN, hd⟩ => by
  obtain ⟨rfl, rfl, h0⟩ := aw_dif hd
  exact ⟨l, kl, hv, hN, h0⟩
theorem awWit (w : World) [Tab Tryd.prog w] [Tab Tryd.prog w] (k : DK) (h : AtP w (oneP 1) k) :
  PureT Tryd.prog 30 [pV (oneP 1) k] w fun v N => ∃ (l : La) (kl : LK), v = .tuple #[lV l kl, vI 9] ∧ N = [lI 5 l kl] :=
 CallT.mono (parWit w (oneP 1) k h (oneP_valid (v := 1) (by decide) (by decide)).c) fun v N ⟨l, kl, e, hv, hN, hd⟩ => by
  have h1 : checkP (oneP 1) = 0 := checkP_zero.2 (oneP_valid (v := 1) (by decide) (by decide))
  rcases hd with ⟨h2, _⟩ | ⟨_, _, k9, h3, h4, h5⟩ | ⟨_, rfl, _⟩
  ·exact absurd h1 h2
  ·obtain ⟨pre, loop, hF, _⟩ := h5
   obtain ⟨v9, hv9, ho⟩ := hF.one
   have hV := oneP_valid (v := 1) (by decide) (by decide)
   have h6 := vis_lt hV loop _ (runN_lt hV.val hV.st pre hF.wp) hF.wl v9 hv9
   have e0 : (oneP 1).next.length = 1 := rfl
   have e : v9 = 0 := by omega
   subst e
   have h7 : prN (oneP 1) 0 = k9 := of_decide_eq_true ho
   have h8 : prN (oneP 1) 0 = 1 := rfl
   omega
  ·exact ⟨l, kl, hv, hN⟩
theorem awakeC (w : World) [Tab Tryd.prog w] : PureT Tryd.prog 12 [] w fun v N => v = .bool true ∧ N = [] := by
 refine CallT.enter func12 rfl ntmps12 rfl ?_
 obtain ⟨R, hR⟩ : ∃ m, rdV zerosP = m := ⟨_, rfl⟩
 have hRp : R.prio = [0, 1] := hR ▸ zeros_rd
 refine T.s (T.rg (TO.qa rfl (TO.nl (T.s (T.rg ?_)))))
 have hk21 := fun (w1 : World) (hI : Inv w [] w1) => (haveI := tbz hI; zerosK w1)
 refine TO.l rfl (l_call ent38 (CallT.op hk21) rfl ?_)
 clear hk21
 rintro vr O' ⟨N, rfl, k0, rfl, rfl⟩
 refine TO.l rfl (l_alloc inf25 rfl (fun z1 => ?_))
 refine TO.l rfl (l_sb (v := (pV zerosP k0)) (vs := (pC zerosP k0)) 0 inf25 rfl rfl rfl rfl rfl rfl (by simp [putL]) ?_)
 refine TO.nl (T.s (T.rg (TO.l rfl (l_buildSlice (m := 2) (parts := [(0, .const (.int .u8 1)), (1, .const (.int .u8 1))]) (cs := [.int .u8 1, .int .u8 1]) uT26 inf5 (by decide) (by kernel_rfl) rfl (fun z2 => ?_)))))
 refine TO.l rfl (l_build1 (v := .int .u8 0) uT26 inf5 rfl rfl rfl (fun z3 => ?_))
 refine TO.q (q_build (cs := [(.slice (aD z2) 2 2), (.slice (aD z3) 1 1)]) plan28 inf28 (by kernel_rfl)) (TO.l rfl (l_buildSlice (m := 2) (parts := [(0, .const (.int .u8 0)), (1, .const (.int .u8 1))]) (cs := [.int .u8 0, .int .u8 1]) uT26 inf5 (by decide) (by kernel_rfl) rfl (fun z4 => ?_)))
 refine TO.q (q_build (cs := [nS, (.slice (aD z4) 2 2)]) plan28 inf28 (by kernel_rfl)) (TO.l rfl (l_alloc inf28 rfl (fun z5 => ?_)))
 refine TO.l rfl (l_alloc inf28 rfl (fun z6 => ?_))
 refine TO.l rfl (l_sb (v := (.agg #[(.slice (aD z2) 2 2), (.slice (aD z3) 1 1)])) (vs := [(.slice (aD z2) 2 2), (.slice (aD z3) 1 1)]) 1 inf28 rfl rfl rfl rfl rfl rfl (by simp [putL]) ?_)
 refine TO.l rfl (l_sb (v := (.agg #[nS, (.slice (aD z4) 2 2)])) (vs := [nS, (.slice (aD z4) 2 2)]) 0 inf28 rfl rfl rfl rfl rfl rfl (by simp [putL]) ?_)
 refine TO.nl (T.nilRow 5 1 ?_)
 refine T.sub (O' := [rowI (aD z2) 2 5 1 [.int .u8 1, .int .u8 1], rowI (aD z3) 1 5 1 [.int .u8 0], rowI none 0 5 1 [], rowI (aD z4) 2 5 1 [.int .u8 0, .int .u8 1], oI z6 28 [nS, (.slice (aD z4) 2 2)], oI z5 28 [(.slice (aD z2) 2 2), (.slice (aD z3) 1 1)], oI z1 25 (pC zerosP k0), pI 23 3 zerosP k0]) (Sub.pick [5, 4, 0, 2, 0, 0, 0, 0] rfl) ?_
 obtain ⟨kz, hkz⟩ : ∃ k : LK, k = ⟨some ⟨z2, 0, none⟩, 2, some ⟨z3, 0, none⟩, 1⟩ := ⟨_, rfl⟩
 obtain ⟨kb, hkb⟩ : ∃ k : LK, k = ⟨none, 0, some ⟨z4, 0, none⟩, 2⟩ := ⟨_, rfl⟩
 refine T.sub (O' := ([rowI kz.pb kz.pc 5 1 (byts lz.pre), rowI kz.lb kz.lc 5 1 (byts lz.loop)] ++ ([rowI kb.pb kb.pc 5 1 (byts lb.pre), rowI kb.lb kb.lc 5 1 (byts lb.loop)] ++ [oI z6 28 (lC lb kb), oI z5 28 (lC lz kz), oI z1 25 (pC zerosP k0), pI 23 3 zerosP k0]))) (by subst hkz; subst hkb; exact Sub.rf) ?_
 refine T.pack (φ := True) trivial ?_
 refine T.sub (O' := ([rowI kb.pb kb.pc 5 1 (byts lb.pre), rowI kb.lb kb.lc 5 1 (byts lb.loop)] ++ (lI 5 lz kz :: [oI z6 28 (lC lb kb), oI z5 28 (lC lz kz), oI z1 25 (pC zerosP k0), pI 23 3 zerosP k0]))) (by exact Sub.pull [lI 5 lz kz] _ (Sub.pull [lI 5 lz kz] _ Sub.rf)) ?_
 refine T.pack (φ := True) trivial ?_
 refine T.sub (O' := [lI 5 lb kb, lI 5 lz kz, oI z6 28 (lC lb kb), oI z5 28 (lC lz kz), oI z1 25 (pC zerosP k0), pI 23 3 zerosP k0]) Sub.rf ?_
 refine T.reset [lI 5 lb kb, lI 5 lz kz, oI z6 28 (lC lb kb), oI z5 28 (lC lz kz), oI z1 25 (pC zerosP k0), pI 23 3 zerosP k0] [(0, .bool false), (1, (.pointer (aD z1))), (2, (.pointer (aD z5))), (3, (.pointer (aD z6)))] rfl ⟨rfl, rfl, rfl, rfl, trivial⟩ (fun ρ0 => ?_)
 refine T.s (T.rg (TO.q (q_la 4 uT25 rfl inf25 rfl rfl rfl) (TO.q (q_la 3 uT28 rfl inf28 rfl rfl rfl) ?_)))
 have hk30 := fun (w1 : World) (hI : Inv w [lI 5 lb kb, lI 5 lz kz, oI z6 28 (lC lb kb), oI z5 28 (lC lz kz), oI z1 25 (pC zerosP k0), pI 23 3 zerosP k0] w1) => (haveI := tbz hI; (show PureT _ _ _ _ _ from by
   have h9 := parAcc w1 zerosP k0 (hI.atP (II := 23) (I := 3) (mG 5 rfl)) zeros_v.c lz kz (hI.atL (U8 := 5) (mG 1 rfl)) lz_B
   rw [aw_a, lz_e] at h9
   exact h9))
 refine TO.l rfl (l_call ent17 (CallT.op hk30) rfl ?_)
 clear hk30
 rintro vr O' ⟨N, rfl, rfl, rfl⟩
 refine TO.qm rfl (TO.q (q_extract (vs := _) rfl rfl) (TO.q (q_extract (vs := _) rfl rfl) (TO.qa rfl (TO.qa rfl ?_))))
 refine TO.sub (O' := [oI z6 28 (lC lb kb), oI z5 28 (lC lz kz), oI z1 25 (pC zerosP k0), lI 5 lb kb, lI 5 lz kz, pI 23 3 zerosP k0]) (Sub.pick [2, 2, 2, 0, 0, 0] rfl) ?_
 refine TO.nl (T.s (T.rg (TO.q (q_la 2 uT25 rfl inf25 rfl rfl rfl) (TO.q (q_la 0 uT28 rfl inf28 rfl rfl rfl) ?_))))
 have hk36 := fun (w1 : World) (hI : Inv w [oI z6 28 (lC lb kb), oI z5 28 (lC lz kz), oI z1 25 (pC zerosP k0), lI 5 lb kb, lI 5 lz kz, pI 23 3 zerosP k0] w1) => (haveI := tbz hI; (show PureT _ _ _ _ _ from by
   have h9 := parAcc w1 zerosP k0 (hI.atP (II := 23) (I := 3) (mG 5 rfl)) zeros_v.c lb kb (hI.atL (U8 := 5) (mG 3 rfl)) lb_B
   rw [aw_b, lb_e] at h9
   exact h9))
 refine TO.l rfl (l_call ent17 (CallT.op hk36) rfl ?_)
 clear hk36
 rintro vr O' ⟨N, rfl, rfl, rfl⟩
 refine TO.qm rfl (TO.q (q_extract (vs := _) rfl rfl) (TO.q (q_extract (vs := _) rfl rfl) (TO.qa rfl (TO.qa rfl ?_))))
 refine TO.sub (O' := [oI z6 28 (lC lb kb), oI z5 28 (lC lz kz), oI z1 25 (pC zerosP k0), lI 5 lb kb, lI 5 lz kz, pI 23 3 zerosP k0]) (Sub.pick [0, 0, 0, 0, 0, 0] rfl) ?_
 refine TO.nl ?_
 refine T.reset [oI z6 28 (lC lb kb), oI z5 28 (lC lz kz), oI z1 25 (pC zerosP k0), lI 5 lb kb, lI 5 lz kz, pI 23 3 zerosP k0] [(0, .bool false), (1, (.pointer (aD z1))), (2, (.pointer (aD z5))), (3, (.pointer (aD z6))), (4, .bool true), (5, vI 0), (6, .bool false), (7, vI 0)] rfl (.of rfl) (fun ρ0 => ?_)
 refine T.s (T.rg (TO.q (q_la 2 uT25 rfl inf25 rfl rfl rfl) ?_))
 have hk41 := fun (w1 : World) (hI : Inv w [oI z6 28 (lC lb kb), oI z5 28 (lC lz kz), oI z1 25 (pC zerosP k0), lI 5 lb kb, lI 5 lz kz, pI 23 3 zerosP k0] w1) => (haveI := tbz hI; (show PureT _ _ _ _ _ from by
   have h9 := parRd w1 zerosP k0 (hI.atP (II := 23) (I := 3) (mG 5 rfl)) zeros_v.c
   rw [hR, zeros_ok] at h9
   exact h9))
 refine TO.l rfl (l_call ent25 (CallT.op hk41) rfl ?_)
 clear hk41
 rintro vr O' ⟨N, rfl, k1, rfl, rfl⟩
 refine TO.qm rfl (TO.q (q_extract (vs := _) rfl rfl) (TO.q (q_extract (vs := _) rfl rfl) (TO.l rfl (l_alloc inf25 rfl (fun z7 => ?_)))))
 refine TO.l rfl (l_sb (v := (pV R k1)) (vs := (pC R k1)) 0 inf25 rfl rfl rfl rfl rfl rfl (by simp [putL]) ?_)
 refine TO.qa rfl ?_
 refine TO.sub (O' := [oI z7 25 (pC R k1), oI z6 28 (lC lb kb), oI z5 28 (lC lz kz), oI z1 25 (pC zerosP k0), pI 23 3 R k1, lI 5 lb kb, lI 5 lz kz, pI 23 3 zerosP k0]) (Sub.pick [0, 1, 1, 1, 0, 0, 0, 0] rfl) ?_
 refine TO.nl (T.s (T.rg (TO.q (q_la 3 uT25 rfl inf25 rfl rfl rfl) ?_)))
 have hk46 := fun (w1 : World) (hI : Inv w [oI z7 25 (pC R k1), oI z6 28 (lC lb kb), oI z5 28 (lC lz kz), oI z1 25 (pC zerosP k0), pI 23 3 R k1, lI 5 lb kb, lI 5 lz kz, pI 23 3 zerosP k0] w1) => (haveI := tbz hI; (show PureT _ _ _ _ _ from by
   have h9 := parCo w1 zerosP k0 (hI.atP (II := 23) (I := 3) (mG 7 rfl)) zeros_v.c
   rw [zeros_co.1, zeros_co.2] at h9
   exact h9))
 refine TO.l rfl (l_call ent18 (CallT.op hk46) rfl ?_)
 clear hk46
 rintro vr O' ⟨N, rfl, k2, rfl, rfl⟩
 refine TO.qm rfl (TO.q (q_extract (vs := _) rfl rfl) (TO.q (q_extract (vs := _) rfl rfl) (TO.l rfl (l_alloc inf25 rfl (fun z8 => ?_)))))
 refine TO.l rfl (l_sb (v := (pV coZ k2)) (vs := (pC coZ k2)) 0 inf25 rfl rfl rfl rfl rfl rfl (by simp [putL]) ?_)
 refine TO.qa rfl ?_
 refine TO.sub (O' := [oI z8 25 (pC coZ k2), oI z7 25 (pC R k1), oI z6 28 (lC lb kb), oI z5 28 (lC lz kz), oI z1 25 (pC zerosP k0), pI 23 3 coZ k2, pI 23 3 R k1, lI 5 lb kb, lI 5 lz kz, pI 23 3 zerosP k0]) (Sub.pick [0, 1, 1, 1, 1, 0, 0, 0, 0, 0] rfl) ?_
 refine TO.nl ?_
 refine T.reset [oI z8 25 (pC coZ k2), oI z7 25 (pC R k1), oI z6 28 (lC lb kb), oI z5 28 (lC lz kz), oI z1 25 (pC zerosP k0), pI 23 3 coZ k2, pI 23 3 R k1, lI 5 lb kb, lI 5 lz kz, pI 23 3 zerosP k0] [(0, .bool false), (1, (.pointer (aD z1))), (2, (.pointer (aD z5))), (3, (.pointer (aD z6))), (4, .bool true), (5, vI 0), (6, .bool false), (7, vI 0), (8, (.pointer (aD z7))), (9, vI 0), (10, (.pointer (aD z8))), (11, vI 0)] rfl (.of rfl) (fun ρ0 => ?_)
 refine T.s (T.rg (TO.q (q_la 0 uT25 rfl inf25 rfl rfl rfl) (TO.q (q_la 2 uT28 rfl inf28 rfl rfl rfl) ?_)))
 have hk52 := fun (w1 : World) (hI : Inv w [oI z8 25 (pC coZ k2), oI z7 25 (pC R k1), oI z6 28 (lC lb kb), oI z5 28 (lC lz kz), oI z1 25 (pC zerosP k0), pI 23 3 coZ k2, pI 23 3 R k1, lI 5 lb kb, lI 5 lz kz, pI 23 3 zerosP k0] w1) => (haveI := tbz hI; (show PureT _ _ _ _ _ from by
   have h9 := parRun w1 coZ k2 (hI.atP (II := 23) (I := 3) (mG 5 rfl)) co_v.c lb kb (hI.atL (U8 := 5) (mG 7 rfl)) lb_B
   rw [aw_n, lb_e2] at h9
   exact h9))
 refine TO.l rfl (l_call ent15 (CallT.op hk52) rfl ?_)
 clear hk52
 rintro vr O' ⟨N, rfl, rfl, rfl⟩
 refine TO.qm rfl (TO.q (q_extract (vs := _) rfl rfl) (TO.q (q_extract (vs := _) rfl rfl) (TO.qa rfl (TO.qa rfl ?_))))
 refine TO.sub (O' := [oI z8 25 (pC coZ k2), oI z7 25 (pC R k1), oI z6 28 (lC lb kb), oI z5 28 (lC lz kz), oI z1 25 (pC zerosP k0), pI 23 3 coZ k2, pI 23 3 R k1, lI 5 lb kb, lI 5 lz kz, pI 23 3 zerosP k0]) (Sub.pick [0, 0, 0, 0, 0, 0, 0, 0, 0, 0] rfl) ?_
 refine TO.nl (T.s (T.rg (TO.q (q_la 4 uT25 rfl inf25 rfl rfl rfl) (TO.q (q_la 0 uT25 rfl inf25 rfl rfl rfl) ?_))))
 have hk58 := fun (w1 : World) (hI : Inv w [oI z8 25 (pC coZ k2), oI z7 25 (pC R k1), oI z6 28 (lC lb kb), oI z5 28 (lC lz kz), oI z1 25 (pC zerosP k0), pI 23 3 coZ k2, pI 23 3 R k1, lI 5 lb kb, lI 5 lz kz, pI 23 3 zerosP k0] w1) => (haveI := tbz hI; awDif w1 k0 (hI.atP (II := 23) (I := 3) (mG 9 rfl)) k2 (hI.atP (II := 23) (I := 3) (mG 5 rfl)))
 refine TO.l rfl (l_call ent29 (CallT.op hk58) rfl ?_)
 clear hk58
 rintro vr O' ⟨N, rfl, l9, kl9, rfl, rfl, hll⟩
 refine TO.qm rfl (TO.q (q_extract (vs := _) rfl rfl) (TO.q (q_extract (vs := _) rfl rfl) (TO.q (q_extract (vs := _) rfl rfl) (TO.l rfl (l_alloc inf28 rfl (fun z9 => ?_))))))
 refine TO.l rfl (l_sb (v := (lV l9 kl9)) (vs := (lC l9 kl9)) 0 inf28 rfl rfl rfl rfl rfl rfl (by simp [putL]) ?_)
 refine TO.qa rfl (TO.qa rfl ?_)
 refine TO.sub (O' := [oI z9 28 (lC l9 kl9), oI z8 25 (pC coZ k2), oI z7 25 (pC R k1), oI z6 28 (lC lb kb), oI z5 28 (lC lz kz), oI z1 25 (pC zerosP k0), lI 5 l9 kl9, pI 23 3 coZ k2, pI 23 3 R k1, lI 5 lb kb, lI 5 lz kz, pI 23 3 zerosP k0]) (Sub.pick [0, 1, 1, 1, 1, 1, 0, 0, 0, 0, 0, 0] rfl) ?_
 refine TO.nl ?_
 refine T.reset [oI z9 28 (lC l9 kl9), oI z8 25 (pC coZ k2), oI z7 25 (pC R k1), oI z6 28 (lC lb kb), oI z5 28 (lC lz kz), oI z1 25 (pC zerosP k0), lI 5 l9 kl9, pI 23 3 coZ k2, pI 23 3 R k1, lI 5 lb kb, lI 5 lz kz, pI 23 3 zerosP k0] [(0, .bool false), (1, (.pointer (aD z1))), (2, (.pointer (aD z5))), (3, (.pointer (aD z6))), (4, .bool true), (5, vI 0), (6, .bool false), (7, vI 0), (8, (.pointer (aD z7))), (9, vI 0), (10, (.pointer (aD z8))), (11, vI 0), (12, vI 4), (13, vI 0), (14, (.pointer (aD z9))), (15, .bool true), (16, vI 0)] rfl (.of rfl) (fun ρ0 => ?_)
 refine T.s (T.rg (TO.l rfl (l_buildSlice (m := 2) (parts := [(0, .const (vI 1)), (1, .const (vI 1))]) (cs := [vI 1, vI 1]) uT23 inf3 (by decide) (by kernel_rfl) rfl (fun z10 => ?_))))
 refine TO.l rfl (l_buildSlice (m := 2) (parts := [(0, .const (vI 0)), (1, .const (vI 0))]) (cs := [vI 0, vI 0]) uT23 inf3 (by decide) (by kernel_rfl) rfl (fun z11 => ?_))
 refine TO.l rfl (l_buildSlice (m := 2) (parts := [(0, .tmp 63), (1, .tmp 64)]) (cs := [(.slice (aD z10) 2 2), (.slice (aD z11) 2 2)]) uT22 inf23 (by decide) (by kernel_rfl) rfl (fun z12 => ?_))
 refine TO.l rfl (l_buildSlice (m := 2) (parts := [(0, .const (vI 1)), (1, .const (vI 1))]) (cs := [vI 1, vI 1]) uT23 inf3 (by decide) (by kernel_rfl) rfl (fun z13 => ?_))
 refine TO.q (q_build (cs := [vI 1, (vI 0), (.slice (aD z12) 2 2), (.slice (aD z13) 2 2)]) plan25 inf25 (by kernel_rfl)) ?_
 have hk68 := fun (w1 : World) (hI : Inv w [rowI (aD z13) 2 3 1 [vI 1, vI 1], rowI (aD z12) 2 23 1 [(.slice (aD z10) 2 2), (.slice (aD z11) 2 2)], rowI (aD z11) 2 3 1 [vI 0, vI 0], rowI (aD z10) 2 3 1 [vI 1, vI 1], oI z9 28 (lC l9 kl9), oI z8 25 (pC coZ k2), oI z7 25 (pC R k1), oI z6 28 (lC lb kb), oI z5 28 (lC lz kz), oI z1 25 (pC zerosP k0), lI 5 l9 kl9, pI 23 3 coZ k2, pI 23 3 R k1, lI 5 lb kb, lI 5 lz kz, pI 23 3 zerosP k0] w1) => (haveI := tbz hI; (show PureT _ _ _ _ _ from by
   have h9 := parQuo w1 qZ (⟨some ⟨z12, 0, none⟩, 2, some ⟨z13, 0, none⟩, 2, [⟨some ⟨z10, 0, none⟩, 2, [1, 1]⟩, ⟨some ⟨z11, 0, none⟩, 2, [0, 0]⟩]⟩) ⟨hI.slOf (mG 1 rfl), RowsR.two (hI.slOf (cs := ints [1, 1]) (mG 3 rfl)) (hI.slOf (cs := ints [0, 0]) (mG 2 rfl)) rfl rfl, (hI.slOf (cs := ints [1, 1]) (mG 0 rfl))⟩ qZ_v.c
   rw [qZ_quo, qZ_ok] at h9
   exact h9))
 refine TO.l rfl (l_call ent27 (CallT.op hk68) rfl ?_)
 clear hk68
 rintro vr O' ⟨N, rfl, k3, rfl, rfl⟩
 refine TO.qm rfl (TO.q (q_extract (vs := _) rfl rfl) (TO.q (q_extract (vs := _) rfl rfl) (TO.l rfl (l_alloc inf25 rfl (fun z14 => ?_)))))
 refine TO.l rfl (l_sb (v := (pV (oneP 1) k3)) (vs := (pC (oneP 1) k3)) 0 inf25 rfl rfl rfl rfl rfl rfl (by simp [putL]) ?_)
 refine TO.qa rfl ?_
 refine TO.sub (O' := [oI z14 25 (pC (oneP 1) k3), oI z9 28 (lC l9 kl9), oI z8 25 (pC coZ k2), oI z7 25 (pC R k1), oI z6 28 (lC lb kb), oI z5 28 (lC lz kz), oI z1 25 (pC zerosP k0), pI 23 3 (oneP 1) k3, lI 5 l9 kl9, pI 23 3 coZ k2, pI 23 3 R k1, lI 5 lb kb, lI 5 lz kz, pI 23 3 zerosP k0]) (Sub.pick [0, 5, 5, 5, 5, 5, 5, 0, 4, 4, 4, 4, 4, 4] rfl) ?_
 refine TO.nl ?_
 refine T.reset [oI z14 25 (pC (oneP 1) k3), oI z9 28 (lC l9 kl9), oI z8 25 (pC coZ k2), oI z7 25 (pC R k1), oI z6 28 (lC lb kb), oI z5 28 (lC lz kz), oI z1 25 (pC zerosP k0), pI 23 3 (oneP 1) k3, lI 5 l9 kl9, pI 23 3 coZ k2, pI 23 3 R k1, lI 5 lb kb, lI 5 lz kz, pI 23 3 zerosP k0] [(0, .bool false), (1, (.pointer (aD z1))), (2, (.pointer (aD z5))), (3, (.pointer (aD z6))), (4, .bool true), (5, vI 0), (6, .bool false), (7, vI 0), (8, (.pointer (aD z7))), (9, vI 0), (10, (.pointer (aD z8))), (11, vI 0), (12, vI 4), (13, vI 0), (14, (.pointer (aD z9))), (15, .bool true), (16, vI 0), (17, (.pointer (aD z14))), (18, vI 0)] rfl (.of rfl) (fun ρ0 => ?_)
 refine T.s (T.rg (TO.q (q_la 0 uT25 rfl inf25 rfl rfl rfl) ?_))
 have hk73 := fun (w1 : World) (hI : Inv w [oI z14 25 (pC (oneP 1) k3), oI z9 28 (lC l9 kl9), oI z8 25 (pC coZ k2), oI z7 25 (pC R k1), oI z6 28 (lC lb kb), oI z5 28 (lC lz kz), oI z1 25 (pC zerosP k0), pI 23 3 (oneP 1) k3, lI 5 l9 kl9, pI 23 3 coZ k2, pI 23 3 R k1, lI 5 lb kb, lI 5 lz kz, pI 23 3 zerosP k0] w1) => (haveI := tbz hI; awWit w1 k3 (hI.atP (II := 23) (I := 3) (mG 7 rfl)))
 refine TO.l rfl (l_call ent30 (CallT.op hk73) rfl ?_)
 clear hk73
 rintro vr O' ⟨N, rfl, l8, kl8, rfl, rfl⟩
 refine TO.qm rfl (TO.q (q_extract (vs := _) rfl rfl) (TO.q (q_extract (vs := _) rfl rfl) (TO.l rfl (l_alloc inf28 rfl (fun z15 => ?_)))))
 refine TO.l rfl (l_sb (v := (lV l8 kl8)) (vs := (lC l8 kl8)) 0 inf28 rfl rfl rfl rfl rfl rfl (by simp [putL]) ?_)
 refine TO.qa rfl ?_
 refine TO.sub (O' := [oI z15 28 (lC l8 kl8), oI z14 25 (pC (oneP 1) k3), oI z9 28 (lC l9 kl9), oI z8 25 (pC coZ k2), oI z7 25 (pC R k1), oI z6 28 (lC lb kb), oI z5 28 (lC lz kz), oI z1 25 (pC zerosP k0), lI 5 l8 kl8, pI 23 3 (oneP 1) k3, lI 5 l9 kl9, pI 23 3 coZ k2, pI 23 3 R k1, lI 5 lb kb, lI 5 lz kz, pI 23 3 zerosP k0]) (Sub.pick [0, 1, 1, 1, 1, 1, 1, 1, 0, 0, 0, 0, 0, 0, 0, 0] rfl) ?_
 refine TO.nl (T.s (T.rg (TO.qm rfl (TO.qm rfl (TO.gq rfl rfl (q_move rfl) (TO.gq rfl rfl (q_not rfl) (TO.q (q_pick1 rfl rfl) (TO.qm rfl (TO.gq rfl rfl (q_move rfl) (TO.gq rfl rfl (QT.toB (q_eql rfl rfl) (decide_eq_true (by first | rfl | decide | omega))) (TO.q (q_pick1 rfl rfl) (TO.qm rfl ?_))))))))))))
 refine TO.gq rfl rfl (q_move rfl) (TO.gq rfl rfl (QT.toB (q_eql rfl rfl) (decide_eq_true (by first | rfl | decide | omega))) (TO.q (q_pick1 rfl rfl) (TO.qm rfl (TO.gq rfl rfl (q_move rfl) (TO.gq rfl rfl (QT.toB (q_eql rfl rfl) (decide_eq_true (by first | rfl | decide | omega))) (TO.q (q_pick1 rfl rfl) (TO.qm rfl (TO.gq rfl rfl (q_fa uT25 rfl inf23 rfl rfl) (TO.gq rfl rfl (q_lb 4 uT23 rfl rfl rfl rfl) ?_)))))))))
 refine TO.gd rfl rfl rfl (l_buildSlice (m := 2) (parts := [(0, .const (vI 0)), (1, .const (vI 1))]) (cs := [vI 0, vI 1]) uT23 inf3 (by decide) (by kernel_rfl) rfl (fun z16 => ?_))
 have hk97 := fun (w1 : World) (hI : Inv w [rowI (aD z16) 2 3 1 [vI 0, vI 1], oI z15 28 (lC l8 kl8), oI z14 25 (pC (oneP 1) k3), oI z9 28 (lC l9 kl9), oI z8 25 (pC coZ k2), oI z7 25 (pC R k1), oI z6 28 (lC lb kb), oI z5 28 (lC lz kz), oI z1 25 (pC zerosP k0), lI 5 l8 kl8, pI 23 3 (oneP 1) k3, lI 5 l9 kl9, pI 23 3 coZ k2, pI 23 3 R k1, lI 5 lb kb, lI 5 lz kz, pI 23 3 zerosP k0] w1) => (haveI := tbz hI; (show PureT _ _ _ _ _ from by
   have h9 := equalInts w1 k1.fb (aD z16) k1.fc 2 R.prio [0, 1] (hI.atP (II := 23) (I := 3) (mG 13 rfl)).prio (hI.slOf (cs := ints [0, 1]) (mG 0 rfl)) (by rw [hRp]; decide)
   rw [decide_eq_true hRp] at h9
   exact h9))
 refine TO.gd rfl rfl rfl (l_call ent39 (CallT.op hk97) rfl ?_)
 clear hk97
 rintro vr O' ⟨N, rfl, rfl, rfl⟩
 refine TO.q (q_pick1 rfl rfl) (TO.qm rfl (TO.gq rfl rfl (q_move rfl) (TO.gq rfl rfl (QT.toB (q_eql rfl rfl) (decide_eq_true (by first | rfl | decide | omega))) (TO.q (q_pick1 rfl rfl) (TO.qm rfl (TO.gq rfl rfl (q_fa uT25 rfl inf23 rfl rfl) (TO.gq rfl rfl (q_lb 4 uT23 rfl rfl rfl rfl) ?_)))))))
 refine TO.gd rfl rfl rfl (l_buildSlice (m := 2) (parts := [(0, .const (vI 3)), (1, .const (vI 4))]) (cs := [vI 3, vI 4]) uT23 inf3 (by decide) (by kernel_rfl) rfl (fun z17 => ?_))
 have hk107 := fun (w1 : World) (hI : Inv w [rowI (aD z17) 2 3 1 [vI 3, vI 4], rowI (aD z16) 2 3 1 [vI 0, vI 1], oI z15 28 (lC l8 kl8), oI z14 25 (pC (oneP 1) k3), oI z9 28 (lC l9 kl9), oI z8 25 (pC coZ k2), oI z7 25 (pC R k1), oI z6 28 (lC lb kb), oI z5 28 (lC lz kz), oI z1 25 (pC zerosP k0), lI 5 l8 kl8, pI 23 3 (oneP 1) k3, lI 5 l9 kl9, pI 23 3 coZ k2, pI 23 3 R k1, lI 5 lb kb, lI 5 lz kz, pI 23 3 zerosP k0] w1) => (haveI := tbz hI; (show PureT _ _ _ _ _ from by
   have h9 := equalInts w1 k2.fb (aD z17) k2.fc 2 coZ.prio [3, 4] (hI.atP (II := 23) (I := 3) (mG 13 rfl)).prio (hI.slOf (cs := ints [3, 4]) (mG 0 rfl)) (by rw [coZ_prio]; decide)
   rw [decide_eq_true coZ_prio] at h9
   exact h9))
 refine TO.gd rfl rfl rfl (l_call ent39 (CallT.op hk107) rfl ?_)
 clear hk107
 rintro vr O' ⟨N, rfl, rfl, rfl⟩
 refine TO.q (q_pick1 rfl rfl) (TO.qm rfl (TO.gq rfl rfl (q_move rfl) (TO.gq rfl rfl (QT.toB (q_eql rfl rfl) (decide_eq_true (by first | rfl | decide | omega))) (TO.q (q_pick1 rfl rfl) (TO.qm rfl (TO.gq rfl rfl (q_move rfl) (TO.gq rfl rfl (QT.toB (q_eql rfl rfl) (decide_eq_true (by first | rfl | decide | omega))) (TO.q (q_pick1 rfl rfl) (TO.qm rfl (TO.gq rfl rfl (q_move rfl) ?_))))))))))
 refine TO.gq rfl rfl (QT.toB (q_eql rfl rfl) (decide_eq_true (by first | rfl | decide | omega))) (TO.q (q_pick1 rfl rfl) (TO.qm rfl (TO.gq rfl rfl (q_move rfl) (TO.q (q_pick1 rfl rfl) (TO.qm rfl (TO.gq rfl rfl (q_fa uT28 rfl inf26 rfl rfl) (TO.gq rfl rfl (q_lb 4 uT26 rfl rfl rfl rfl) (TO.gq rfl rfl (q_len uT26 rfl) (TO.gq rfl rfl (QT.toB (q_gtr rfl rfl) (decide_eq_true (by first | rfl | decide | omega))) ?_)))))))))
 refine TO.q (q_pick1 rfl rfl) (TO.qm rfl (TO.gq rfl rfl (q_move rfl) (TO.gq rfl rfl (QT.toB (q_eql rfl rfl) (decide_eq_true (by first | rfl | decide | omega))) (TO.q (q_pick1 rfl rfl) (TO.qm rfl (TO.gq rfl rfl (q_fa uT25 rfl inf22 rfl rfl) (TO.gq rfl rfl (q_lb 3 uT22 rfl rfl rfl rfl) (TO.gq rfl rfl (q_len uT22 rfl) (TO.gq rfl rfl (QT.toB (q_eql rfl rfl) (decide_eq_true (by first | rfl | decide | omega))) ?_)))))))))
 refine TO.q (q_pick1 rfl rfl) (TO.qm rfl (TO.gq rfl rfl (q_move rfl) (TO.gq rfl rfl (QT.toB (q_eql rfl rfl) (decide_eq_true (by first | rfl | decide | omega))) (TO.q (q_pick1 rfl rfl) (TO.qa rfl (TO.nl (T.ret (Res.drop ?_))))))))
 refine Res.one (.bool true) Tryd.results12 rfl ?_
 exact ⟨[], Sub.z, rfl, rfl⟩
end Go.Proofs.YtnikhiohindggaaDoor


namespace Go.Proofs.YtnikhiohindggaaDoor
open Go.Lx Go.RowKit _root_.Go.Proofs.Tryd
theorem noP_c : ParC noP := ⟨by decide, fun r hr => (List.not_mem_nil hr).elim, by decide⟩
theorem withP_c {p : Par} (h : ParC p) (f : Nat → Int) : ParC (withP p f) := ⟨h.n, h.r, by show ((List.range p.next.length).map f).length < _; rw [List.length_map, List.length_range]; exact h.n⟩
theorem rdV_c {p : Par} (h : ParC p) : ParC (rdV p) := by
 unfold rdV; split
 ·exact withP_c h _
 ·exact noP_c
theorem quoV_c (p : Par) : ParC (quoV p) := by
 unfold quoV; split
 ·rename_i h; exact (quV_valid (checkP_zero.1 h)).c
 ·exact noP_c
end Go.Proofs.YtnikhiohindggaaDoor


namespace Go.Lx
open Go.RowKit Go.ChangeShapes Go.WideShapes Go.Deep
section
variable {H : Type} {enc : TypeId × Value → H} {P : Program}
theorem TrodAll_stays (hl : laidOutB P = true) {W W' : World} {sp' : Nat → Bool} : ∀ {ts : List TypeId} {vs : List Value} {ds : List (DataW H)} {ps : List MemPlace},
  (∀ t ∈ ts, P.readableRec t = true ∧ t < P.types.size) → DataW.TrodAll enc P W 0 (fun _ => true) true ts vs ds ps → (∀ p ∈ ps, W.sameAt W' p) → (∀ p ∈ ps, sp' p.block = true) → DataW.TrodAll enc P W' 0 sp' true ts vs ds ps
 | [], _, _, _, _, h, _, _ => by
  obtain ⟨rfl, rfl, rfl⟩ := trodAll_nil h
  rfl
 | t :: ts, _, _, _, hr, h, hs, hsp => by
  obtain ⟨v, vs1, d, ds1, p, q, rfl, rfl, rfl, h1, h2⟩ := trodAll_cons h
  have ht := hr t (by simp)
  exact ⟨p, q, WideElems.Trod_stays hl ht.1 ht.2 h1 (fun x hx => hs x (List.mem_append_left _ hx)) (fun x hx => hsp x (List.mem_append_left _ hx)),
   TrodAll_stays hl (fun t ht => hr t (by simp [ht])) h2 (fun x hx => hs x (List.mem_append_right _ hx)) (fun x hx => hsp x (List.mem_append_right _ hx)), rfl⟩
theorem post_law {f : Func} {s : ChangeSpec} {W W' : World} {args : Array Value} {ds gs : List (DataW H)} {before : List MemPlace} {tb : TypeId}
  (hl : laidOutB P = true) (hr : ∀ t ∈ f.params.toList, P.readableRec t = true ∧ t < P.types.size) (hres : f.resultTypes = #[tb]) (hb : P.underlying tb = some .bool) (hv : s.vars = [])
  (hW : DataW.Whole enc P f.params.toList s.vars false W args.toList ds gs before)
  (h1 : (s.fn H ds).results = [.lit (.bool true)]) (h2 : (s.fn H ds).args = ds) (h3 : (s.fn H ds).vars = [])
  (hB : Below W.heap.size W W') : s.post enc P f false true false false W args (.bool true) W' := by
 have hW0 := hW
 obtain ⟨p, q, hA, hV, rfl, hz, hn⟩ := hW
 rw [hv] at hV
 obtain ⟨rfl, rfl⟩ := trodVars_none hV
 simp only [List.append_nil] at hW0 hz hn
 have hlt := hW0.lt
 have hsame : ∀ x ∈ p, W.sameAt W' x := fun x hx => hB.same (hlt x hx)
 have hargs : ∀ sp : Nat → Bool, (∀ x ∈ p, sp x.block = true) → DataW.TrodAll enc P W' 0 sp true f.params.toList args.toList (s.fn H (ds ++ [])).args p := fun sp hsp => by
  rw [List.append_nil, h2]
  exact TrodAll_stays hl hr hA hsame hsp
 have hvars : ∀ sp : Nat → Bool, DataW.TrodVars enc P W' sp s.vars (s.fn H (ds ++ [])).vars [] := fun sp => by
  rw [List.append_nil, hv, h3]; rfl
 have hresult : ∀ (b : Nat) (sp : Nat → Bool) (hd : Bool), DataW.TrodAll enc P W' b sp hd f.resultTypes.toList ((Value.bool true).resultList f.resultTypes.size) (s.fn H (ds ++ [])).results [] := fun b sp hd => by
  rw [List.append_nil, h1, hres]
  exact trodAll_cons_mk (shut_bool hb _) trodAll_mk0
 have hold : ∀ x ∈ p, (fun b => decide (b < W.heap.size)) x.block = true := fun x hx => by simpa using hlt x hx
 refine ⟨ds, [], p, [], p, [], hW0, hresult _ _ _, hargs _ hold, hvars _, World.keptBut_mono (fun x hx => ⟨hx, ?_⟩) (hB.frame _), fun _ => ?_⟩
 ·exact Or.inr (by simpa using hx)
 ·refine ⟨ok_one hres rfl (okWide_bool_mk hb _), _, _, ([] ++ p) ++ [], ⟨[] ++ p, [], trodAll_append (hargs _ (fun _ _ => rfl)) (hresult _ _ _), hvars _, rfl, ?_, ?_⟩, ?_⟩
  ·intro b off hx
   have hx' : MemPlace.cell b off ∈ p := by simpa using hx
   rw [hB.frozen (p := ⟨b, off, none⟩) (hlt _ hx')]
   exact hz b off hx'
  ·intro ha; cases ha
  ·intro x hx _
   simpa using hx
theorem spotNone {w : World} {a : Addr} {v : Value} (h : w.cell? a = some v) : a.spot = none := by
 unfold World.cell? at h
 cases e : a.spot with
 | none => rfl
 | some x => rw [e] at h; split at h <;> simp at h
theorem Sl.ofCells {w : World} {a : Addr} {cs : List Value} (h : ∀ i (hi : i < cs.length), w.cell? (a.add i) = some cs[i]) : Sl w (some a) cs := fun i hi => by
 have h0 := h 0 (by omega)
 have h1 := h i hi
 have h2 : a.spot = none := spotNone (a := a) (by simpa [Addr.add] using h0)
 refine ⟨a, rfl, h2, ?_⟩
 have e : a.add i = ⟨a.block, a.off + i, none⟩ := by
  unfold Addr.add
  split
  ·rename_i h; subst h
   cases a with
   | mk b o s => simp at h2; subst h2; rfl
  ·rfl
 rw [← e]; exact h1
theorem weights_all (e : TypeId) : ∀ {l : List (DataW H)} {d : DataW H}, d ∈ l → ∀ m ∈ d.weights P e, m ∈ DataW.weightsAll P e l
 | [], _, h, _, _ => by cases h
 | x :: l, d, h, m, hm => by
  rw [DataW.weightsAll, List.mem_append]
  rcases List.mem_cons.1 h with rfl | h
  ·exact .inl hm
  ·exact .inr (weights_all e h m hm)
theorem slice_bound {t e : TypeId} {elems spare : List (DataW H)} (ht : P.underlying t = some (.slice e)) (he : 0 < P.bytesOf e) (h : ∀ m ∈ (DataW.slice elems spare).weights P t, m ≤ reachBytes) :
  elems.length ≤ reachBytes ∧ ∀ d ∈ elems, ∀ m ∈ d.weights P e, m ≤ reachBytes := by
 have hw : (DataW.slice elems spare).weights P t = (elems.length + spare.length) * P.bytesOf e :: (DataW.weightsAll P e elems ++ DataW.weightsAll P e spare) := by
  rw [DataW.weights, ht]
 rw [hw] at h
 refine ⟨?_, fun d hd m hm => h m (List.mem_cons_of_mem _ (List.mem_append_left _ (weights_all e hd m hm)))⟩
 have h1 := h _ List.mem_cons_self
 have h2 := Nat.mul_le_mul_left (elems.length + spare.length) (show 1 ≤ P.bytesOf e from he)
 omega
theorem intsOf {w : World} {A : Option Addr} {L C : Nat} {Z : List Int} (hL : L ≤ C) (hZ : Z.length = C) (h0 : A = none → C = 0) (h : ∀ a', A = some a' → 0 ≤ a'.block ∧ ∀ c, c < C → w.cell? (a'.add c) = some (.int .i64 (Z.getD c 0))) :
  (Z.take L).length = L ∧ Sl w A (ints (Z.take L)) := by
 have hl : (Z.take L).length = L := by rw [List.length_take]; omega
 refine ⟨hl, ?_⟩
 cases A with
 | none =>
  have := h0 rfl
  have : Z.take L = [] := List.eq_nil_of_length_eq_zero (by omega)
  rw [this]; exact Sl.nil _ _
 | some a =>
  refine Sl.ofCells fun i hi => ?_
  have hi' : i < L := by rw [List.length_map, hl] at hi; exact hi
  have hiz : i < Z.length := by omega
  rw [(h a rfl).2 i (by omega), List.getElem_map, List.getElem_take]
  simp [hiz]
end
end Go.Lx


namespace Go.Lx
open Go.RowKit Go.ChangeShapes Go.WideShapes Go.Deep
section
variable {H : Type} {enc : TypeId × Value → H} {P : Program}
theorem open_nums {tr ti : TypeId} {W : World} {c : Value} {cs : List Value} {x : DataW H × List MemPlace} {fuel : Nat} (hrow : P.underlying tr = some (.slice ti)) (hi : P.underlying ti = some (.int .i64)) (ci : P.cellsOf ti = 1) (bi : 0 < P.bytesOf ti)
  (hcs : cs = [c]) (hw : ∀ m ∈ x.1.weights P tr, m ≤ reachBytes) (g : DataW.trod enc P W 0 (fun _ => true) true fuel tr cs = some x) :
  ∃ (b : Option Addr) (cp : Nat) (xs : List Int), c = .slice b xs.length cp ∧ xs.length ≤ reachBytes ∧ Sl W b (ints xs) := by
 subst hcs
 rcases open_ints hrow hi ci g with ⟨h, _⟩ | ⟨a, len, cap, zs, h, _, hl, _, hz, hx, hcell, _⟩
 ·exact ⟨none, 0, [], by simpa using h, Nat.zero_le _, Sl.nil _ _⟩
 ·simp only [if_true] at hz
  rw [congrArg Prod.fst hx] at hw
  have hb := (slice_bound hrow bi hw).1
  have hln : (zs.take len).length = len := by rw [List.length_take]; omega
  have hb' : len ≤ reachBytes := by
   have : (lits (H := H) .i64 (zs.take len)).length = len := by simp [lits]; omega
   omega
  refine ⟨some a, cap, zs.take len, by rw [hln]; simpa using h, by omega, ?_⟩
  have := intsOf (w := W) (A := some a) (L := len) (C := cap) (Z := zs) hl hz (fun h => by cases h) (fun a' h => by cases h; exact ⟨Nat.zero_le _, fun i hi => hcell i (by omega)⟩)
  exact this.2
theorem open_numrows {tn tr ti : TypeId} {W : World} {c2 : Value} {cs : List Value} {x : DataW H × List MemPlace} {fuel : Nat} (hn : P.underlying tn = some (.slice tr)) (hrow : P.underlying tr = some (.slice ti)) (hi : P.underlying ti = some (.int .i64)) (cr : P.cellsOf tr = 1) (ci : P.cellsOf ti = 1) (br : 0 < P.bytesOf tr) (bi : 0 < P.bytesOf ti)
  (hcs : cs = [c2]) (hw2 : ∀ m ∈ x.1.weights P tn, m ≤ reachBytes) (g2 : DataW.trod enc P W 0 (fun _ => true) true fuel tn cs = some x) :
  ∃ (nb : Option Addr) (nc : Nat) (rows : List (List Int)) (vs : List Value), c2 = .slice nb rows.length nc ∧ rows.length ≤ reachBytes ∧ (∀ r ∈ rows, r.length ≤ reachBytes) ∧ Sl W nb vs ∧ RowsR W vs rows := by
 subst hcs
 rcases open_int_rows hn hrow hi cr ci g2 with ⟨hcs2, _⟩ | ⟨a, len, cap, A, L, C, Z, hcs2, _, hlc, hcm, hx2, hall⟩
 ·exact ⟨none, 0, [], [], by simpa using hcs2, Nat.zero_le _, fun r hr => (List.not_mem_nil hr).elim, Sl.nil _ _, rfl, fun i r hr => by simp at hr⟩
 ·rw [congrArg Prod.fst hx2] at hw2
  obtain ⟨hwl, hwr⟩ := slice_bound hn br hw2
  have hwl' : len ≤ reachBytes := by simpa using hwl
  have hwrow : ∀ r, r < len → L r ≤ reachBytes := fun r hr => by
   obtain ⟨_, a2, _, a4, _, a6, _⟩ := hall r (by omega)
   have hm := hwr _ (List.mem_map.2 ⟨r, List.mem_range.2 hr, rfl⟩)
   cases hA : A r with
   | none => have := a6 hA; omega
   | some b =>
    rw [hA] at hm
    have := (slice_bound hrow bi hm).1
    simp [lits] at this
    omega
  have hrl : ∀ r, r < len → ((Z r).take (L r)).length = L r ∧ Sl W (A r) (ints ((Z r).take (L r))) := fun r hr => by
   obtain ⟨_, a2, a3, a4, _, a6, a7⟩ := hall r (by omega)
   exact intsOf a2 a4 a6 a7
  refine ⟨some a, cap, (List.range len).map fun r => (Z r).take (L r), (List.range len).map fun r => .slice (A r) (L r) (C r), by simpa using hcs2, by simp; omega, ?_, ?_, by simp, ?_⟩
  ·intro r hr
   obtain ⟨j, hj, rfl⟩ := List.mem_map.1 hr
   have hj' := List.mem_range.1 hj
   rw [(hrl j hj').1]; exact hwrow j hj'
  ·refine Sl.ofCells fun i hi9 => ?_
   have hi' : i < len := by simpa using hi9
   rw [(hall i (by omega)).1]; simp
  ·intro i r hr
   have hi' : i < len := by
    have := (List.getElem?_eq_some_iff.1 hr).1
    simpa using this
   have er : r = (Z i).take (L i) := by
    rw [List.getElem?_map, List.getElem?_range hi'] at hr
    exact (Option.some.inj hr).symm
   subst er
   refine ⟨A i, C i, ?_, (hrl i hi').2⟩
   rw [List.getElem?_map, List.getElem?_range hi', (hrl i hi').1]; rfl
structure ParIn (W : World) (v : Value) (p : Par) (k : DK) : Prop where
 val : v = pV p k
 at_ : AtP W p k
 c : ParC p
theorem open_par {t ti tn tr : TypeId} {f0 f1 f2 f3 : Field} {W : World} {v : Value} {d : DataW H} {p : List MemPlace}
  (ht : P.underlying t = some (.struct #[f0, f1, f2, f3])) (hc : P.cellsOf t = 4) (h0 : f0.type = ti) (h1 : f1.type = ti) (h2 : f2.type = tn) (h3 : f3.type = tr) (o0 : f0.offset = 0) (o1 : f1.offset = 1) (o2 : f2.offset = 2) (o3 : f3.offset = 3)
  (hi : P.underlying ti = some (.int .i64)) (hn : P.underlying tn = some (.slice tr)) (hrow : P.underlying tr = some (.slice ti))
  (ci : P.cellsOf ti = 1) (cn : P.cellsOf tn = 1) (cr : P.cellsOf tr = 1) (br : 0 < P.bytesOf tr) (bi : 0 < P.bytesOf ti) (hw : ∀ m ∈ d.weights P t, m ≤ reachBytes)
  (h : DataW.Trod enc P W 0 (fun _ => true) true t v d p) : ∃ q k, ParIn W v q k := by
 obtain ⟨fuel, hT⟩ := h
 obtain ⟨xs, n, rfl, hx, hlen, hxl, hfs⟩ := DataW.trod_struct ht hT
 rw [hc] at hlen
 obtain ⟨c0, c1, c2, c3, hcs⟩ : ∃ c0 c1 c2 c3, v.cells.toList = [c0, c1, c2, c3] := by
  match hh : v.cells.toList, hlen with
  | [a, b, c, e], _ => exact ⟨a, b, c, e, rfl⟩
 have hv : v = .agg #[c0, c1, c2, c3] := by
  have hsz : v.cells.size = 4 := by rw [← Array.length_toList, hcs]; rfl
  cases v with
  | agg cs =>
   have : cs.toList = [c0, c1, c2, c3] := hcs
   rw [← Array.toArray_toList (xs := cs), this]
  | _ => simp [Value.cells] at hsz
 rw [hcs] at hfs
 obtain ⟨x0, x1, x2, x3, rfl⟩ : ∃ a b c e, xs = [a, b, c, e] := by
  match xs, hxl with
  | [a, b, c, e], _ => exact ⟨a, b, c, e, rfl⟩
 have p0 := hfs 0 f0 rfl
 have p1 := hfs 1 f1 rfl
 have p2 := hfs 2 f2 rfl
 have p3 := hfs 3 f3 rfl
 rw [h0, o0, ci] at p0
 rw [h1, o1, ci] at p1
 rw [h2, o2, cn] at p2
 rw [h3, o3, cr] at p3
 have hd : d = .agg [x0.1, x1.1, x2.1, x3.1] := congrArg Prod.fst hx
 have hwe : d.weights P t = DataW.weightsEach P [ti, ti, tn, tr] [x0.1, x1.1, x2.1, x3.1] := by
  rw [hd, DataW.weights, ht]
  simp [h0, h1, h2, h3]
 rw [hwe] at hw
 have hw2 : ∀ m ∈ x2.1.weights P tn, m ≤ reachBytes := fun m hm => hw m (DataW.weights_mem_each (j := 2) rfl rfl m hm)
 have hw3 : ∀ m ∈ x3.1.weights P tr, m ≤ reachBytes := fun m hm => hw m (DataW.weights_mem_each (j := 3) rfl rfl m hm)
 obtain ⟨n0, e0, _, _⟩ := DataW.trod_int hi p0
 obtain ⟨n1, e1, _, _⟩ := DataW.trod_int hi p1
 have e0' : c0 = .int .i64 n0 := by simpa using e0
 have e1' : c1 = .int .i64 n1 := by simpa using e1
 subst e0' e1'
 obtain ⟨nb, nc, rows, vs, e2, l2, r2, s2, t2⟩ := open_numrows (c2 := c2) hn hrow hi cr ci br bi rfl hw2 p2
 obtain ⟨fb, fc, ps, e3, l3, s3⟩ := open_nums (c := c3) hrow hi ci bi rfl hw3 p3
 have hr : reachBytes < 1152921504606846976 := by decide
 obtain ⟨k, hk, ek⟩ := ParAt.dk (p := ⟨n0, n1, rows, ps⟩) nc fc ⟨s2, t2, s3⟩
 exact ⟨⟨n0, n1, rows, ps⟩, k, by rw [hv, e2, e3]; exact congrArg (fun c : List Value => Value.agg c.toArray) ek, hk, ⟨Nat.lt_of_le_of_lt l2 hr, fun r h9 => Nat.lt_of_le_of_lt (r2 r h9) hr, Nat.lt_of_le_of_lt l3 hr⟩⟩
end
end Go.Lx


namespace Go.Proofs.YtnikhiohindggaaDoor
open Go.ChangeShapes Go.WideShapes Go.ChangeAt Go.RowKit Go.Lx _root_.Go.Proofs.Tryd
set_option maxRecDepth 100000
theorem own : ownKnob Tryd.prog.godebug = none := by kernel_rfl
theorem laidOut : laidOutB Tryd.prog = true := by kernel_rfl
theorem reads_P : Tryd.prog.readableRec 25 = true := by kernel_rfl
theorem lt_P : 25 < Tryd.prog.types.size := of_decide_eq_true (by kernel_rfl)
theorem openP {H : Type} {enc : TypeId × Value → H} {W : World} {v : Value} {d : DataW H} {p : List MemPlace} (hw : ∀ m ∈ d.weights Tryd.prog 25, m ≤ reachBytes) (h : DataW.Trod enc Tryd.prog W 0 (fun _ => true) true 25 v d p) : ∃ q k, ParIn W v q k :=
 open_par underlying25 (by kernel_rfl) rfl rfl rfl rfl rfl rfl rfl rfl underlying3 underlying22 underlying23 (by kernel_rfl) (by kernel_rfl) (by kernel_rfl) (of_decide_eq_true (by kernel_rfl)) (of_decide_eq_true (by kernel_rfl)) hw h
def fillO (cs : Array Value) : Obj → Obj
 | .cells _ t frozen => .cells cs t frozen
 | o => o
noncomputable def laidWorld (os : Os) : World :=
 { World.holding Tryd.prog os ⟨#[], #[], []⟩ with heap := ((((World.holding Tryd.prog os ⟨#[], #[], []⟩).heap.modify 0 (fillO #[.int .u64 1, .int .u64 10, .int .u64 100, .int .u64 1000, .int .u64 10000, .int .u64 100000, .int .u64 1000000, .int .u64 10000000, .int .u64 100000000, .int .u64 1000000000, .int .u64 10000000000, .int .u64 100000000000, .int .u64 1000000000000, .int .u64 10000000000000, .int .u64 100000000000000, .int .u64 1000000000000000, .int .u64 10000000000000000, .int .u64 100000000000000000, .int .u64 1000000000000000000, .int .u64 10000000000000000000])).modify 1 (fillO #[.int .u8 0, .int .u8 1, .int .u8 28, .int .u8 2, .int .u8 29, .int .u8 14, .int .u8 24, .int .u8 3, .int .u8 30, .int .u8 22, .int .u8 20, .int .u8 15, .int .u8 25, .int .u8 17, .int .u8 4, .int .u8 8, .int .u8 31, .int .u8 27, .int .u8 13, .int .u8 23, .int .u8 21, .int .u8 19, .int .u8 16, .int .u8 7, .int .u8 26, .int .u8 12, .int .u8 18, .int .u8 6, .int .u8 11, .int .u8 5, .int .u8 10, .int .u8 9])).modify 2 (fillO #[.int .u8 0, .int .u8 1, .int .u8 56, .int .u8 2, .int .u8 57, .int .u8 49, .int .u8 28, .int .u8 3, .int .u8 61, .int .u8 58, .int .u8 42, .int .u8 50, .int .u8 38, .int .u8 29, .int .u8 17, .int .u8 4, .int .u8 62, .int .u8 47, .int .u8 59, .int .u8 36, .int .u8 45, .int .u8 43, .int .u8 51, .int .u8 22, .int .u8 53, .int .u8 39, .int .u8 33, .int .u8 30, .int .u8 24, .int .u8 18, .int .u8 12, .int .u8 5, .int .u8 63, .int .u8 55, .int .u8 48, .int .u8 27, .int .u8 60, .int .u8 41, .int .u8 37, .int .u8 16, .int .u8 46, .int .u8 35, .int .u8 44, .int .u8 21, .int .u8 52, .int .u8 32, .int .u8 23, .int .u8 11, .int .u8 54, .int .u8 26, .int .u8 40, .int .u8 15, .int .u8 34, .int .u8 20, .int .u8 31, .int .u8 10, .int .u8 25, .int .u8 14, .int .u8 19, .int .u8 9, .int .u8 13, .int .u8 8, .int .u8 7, .int .u8 6])) }
theorem tabOf {W : World} (hL : laidMetH Tryd.prog [("math/bits.deBruijn32tab", Rows.laid_math_bits_deBruijn32tab), ("math/bits.deBruijn64tab", Rows.laid_math_bits_deBruijn64tab), ("internal/strconv.uint64pow10", Rows.laid_internal_strconv_uint64pow10)] W) : Tab Tryd.prog W := by
 have h : laidMet Tryd.prog [("math/bits.deBruijn32tab", Rows.laid_math_bits_deBruijn32tab), ("math/bits.deBruijn64tab", Rows.laid_math_bits_deBruijn64tab), ("internal/strconv.uint64pow10", Rows.laid_internal_strconv_uint64pow10)] W := hL
 obtain ⟨ps, h, _⟩ := h
 have hz := h
 obtain ⟨_, h⟩ := laidVars_tail h
 obtain ⟨_, h⟩ := laidVars_tail h
 obtain ⟨_, hz⟩ := laidVars_tail hz
 exact Tab.of (tabIs_of_vars (g := 0) (t := 138) (e := 132) (n := 20) (by kernel_rfl) (by kernel_rfl) (by kernel_rfl) underlying138 underlying132 (by kernel_rfl) (by kernel_rfl) h) (.inr (tabIs_of_vars (g := 2) (t := 144) (e := 5) (n := 64) (by kernel_rfl) (by kernel_rfl) (by kernel_rfl) underlying144 underlying5 (by kernel_rfl) (by kernel_rfl) hz))
end Go.Proofs.YtnikhiohindggaaDoor


/- Contracts of functions of the program (Zn, Zj, Zl, Zw, Ze, Zx, Z0, Close, CloseY, End): what each call answers and that it leaves memory as it was. Conditions: those each theorem names. -/
import Derived.Test.YtnikhiohindggaaDoorYm
import Derived.Test.YtnikhiohindggaaDoorZg
import Derived.Test.YtnikhiohindggaaDoorCoreL
import Derived.Test.YtnikhiohindggaaDoorZi
import Derived.Test.YtnikhiohindggaaDoorZa
import Derived.Test.YtnikhiohindggaaDoorYs
import Derived.OpenShut
import Derived.Deep.DeepHandedRow
import Derived.Deep.Matrix
import Derived.Deep.Grids
import Derived.WideKeyArgs
import Derived.SizedLaws
import Derived.Deep.Slices
import Derived.Test.YtnikhiohindggaaDoorCards
import Derived.Test.YtnikhiohindggaaDoorTie
import Derived.WalkKit
import Derived.ProofKit
import Derived.Lib.LaidTab
set_option linter.unusedSectionVars false
set_option linter.unusedSimpArgs false
set_option linter.unusedVariables false
set_option linter.unnecessarySimpa false
set_option maxHeartbeats 8000000
set_option maxRecDepth 20000
namespace Go.Lx
open Go.RowKit
def Exact (B : List Item) : Prop := ∀ it ∈ B, ∀ v v' : World, it.P v → it.P v' → ∀ b ∈ it.blocks, v.heap[b]? = v'.heap[b]?
theorem Exact.nil : Exact [] := fun it h => (List.not_mem_nil h).elim
theorem Exact.obj {B : List Item} {b : Nat} {o : Obj} (h : Exact B) : Exact (objI b o :: B) := fun it hit v v' h1 h2 c hc => by
 rcases List.mem_cons.1 hit with rfl | hit
 ·have e : c = b := by simpa [objI] using hc
  subst e
  exact (show v.heap[c]? = some o from h1).trans (show v'.heap[c]? = some o from h2).symm
 ·exact h it hit v v' h1 h2 c hc
def keepI (D : List Nat) (w : World) : Item := ⟨D, fun v => ∀ b ∈ D, v.heap[b]? = w.heap[b]?, fun v v' h hp b hb => by rw [h b hb]; exact hp b hb⟩
theorem NextT.conv {P : Program} {base base2 : World} {M M2 : List Item} {R R2 : Value → List Item → Prop} {x : Result Next} (h : NextT P base M R x) (hc : ∀ v O' w, Inv base (O' ++ M) w → R v O' → ∃ O2, Inv base2 (O2 ++ M2) w ∧ R2 v O2) : NextT P base2 M2 R2 x := by
 cases x with
 | halt e w => exact h
 | ok y w =>
  cases y <;> first
   | exact h
   | exact Calls.mono h fun _ w' ⟨v, O', h1, h2, h3⟩ => by obtain ⟨O2, h4, h5⟩ := hc v O' w' h2 h3; exact ⟨v, O2, h1, h4, h5⟩
   | exact RoundIn.mono h fun _ w' ⟨v, O', h1, h2, h3⟩ => by obtain ⟨O2, h4, h5⟩ := hc v O' w' h2 h3; exact ⟨v, O2, h1, h4, h5⟩
theorem CallV.rebase {P : Program} {base w1 : World} {fv : Value} {args : List Value} {B : List Item} {x : Value} (hI : Inv base B w1) (hx : Exact B) (h : CallV P base fv args B (fun v O' => v = x ∧ O' = B)) : CallV P w1 fv args [] (fun v O' => v = x ∧ O' = []) := fun w M hw => by
 have hw : Inv w1 M w := hw
 have hsz : base.heap.size ≤ w1.heap.size := hI.below.size
 have hsz2 : w1.heap.size ≤ w.heap.size := hw.below.size
 have hbl : Below base.heap.size base w := hI.below.trans (hw.below.mono hsz)
 have hmem : ∀ b, b ∈ (List.range w.heap.size).filter (fun b => decide (base.heap.size ≤ b ∧ b ∉ B.flatMap Item.blocks)) ↔ b < w.heap.size ∧ base.heap.size ≤ b ∧ b ∉ B.flatMap Item.blocks := fun b => by
  rw [List.mem_filter, List.mem_range, decide_eq_true_eq]
 obtain ⟨D, hD⟩ : ∃ D, (List.range w.heap.size).filter (fun b => decide (base.heap.size ≤ b ∧ b ∉ B.flatMap Item.blocks)) = D := ⟨_, rfl⟩
 have hnd : D.Nodup := hD ▸ List.nodup_range.filter _
 rw [hD] at hmem
 have hold : ∀ it ∈ B, it.P w := fun it hit => it.loc w1 w (fun b hb => hw.below.block b (hI.fresh it hit b hb).2) (hI.holds it hit)
 have h0 : Inv base (B ++ [keepI D w]) w := by
  refine ⟨hbl, fun it hit => ?_, fun it hit b hb => ?_, ?_⟩
  ·rcases List.mem_append.1 hit with hit | hit
   ·exact hold it hit
   ·rw [List.mem_singleton.1 hit]; exact fun b _ => rfl
  ·rcases List.mem_append.1 hit with hit | hit
   ·have := hI.fresh it hit b hb; omega
   ·rw [List.mem_singleton.1 hit] at hb
    have := (hmem b).1 hb
    exact ⟨this.2.1, this.1⟩
  ·rw [List.flatMap_append, List.nodup_append]
   refine ⟨hI.nodup, by simpa [keepI] using hnd, fun a ha c hc e => ?_⟩
   have hc2 : c ∈ D := by simpa [keepI] using hc
   exact ((hmem c).1 hc2).2.2 (e ▸ ha)
 refine (h w [keepI D w] h0).conv fun v O' w' hw' ⟨hv, hO⟩ => ⟨[], ?_, hv, rfl⟩
 subst hO
 have hsame : ∀ b, b < w.heap.size → w'.heap[b]? = w.heap[b]? := fun b hb => by
  by_cases h1 : b < base.heap.size
  ·rw [hw'.below.block b h1, hbl.block b h1]
  ·by_cases h2 : b ∈ O'.flatMap Item.blocks
   ·obtain ⟨it, hit, hb2⟩ := List.mem_flatMap.1 h2
    exact hx it hit w' w (hw'.holds it (List.mem_append_left _ hit)) (hold it hit) b hb2
   ·have h3 : (keepI D w).P w' := hw'.holds _ (List.mem_append_right _ List.mem_cons_self)
    exact h3 b ((hmem b).2 ⟨hb, by omega, h2⟩)
 have hge : w.heap.size ≤ w'.heap.size := by
  by_cases h1 : w.heap.size = 0
  ·omega
  ·have h2 := hsame (w.heap.size - 1) (by omega)
   have h3 : w.heap[w.heap.size - 1]? = some w.heap[w.heap.size - 1] := Array.getElem?_eq_getElem (by omega)
   rw [h3] at h2
   have := (Array.getElem?_eq_some_iff.1 h2).1
   omega
 refine ⟨⟨?_, ?_, ?_, by omega, fun k hk => ?_⟩, fun it hit => ?_, fun it hit b hb => ?_, ?_⟩
 ·rw [hw'.below.os, ← hI.below.os]
 ·rw [hw'.below.tape, ← hI.below.tape]
 ·rw [hw'.below.output, ← hI.below.output]
 ·rw [hsame k (by omega)]; exact hw.below.block k hk
 ·exact it.loc w w' (fun b hb => hsame b (hw.fresh it hit b hb).2) (hw.holds it hit)
 ·have := hw.fresh it hit b hb; omega
 ·exact hw.nodup
theorem Res.cell1c {P : Program} {base : World} {ρ : Env} {O : List Item} {fn : Func} {R : Value → List Item → Prop} {a i c e : Nat} (u x : Value) {T E : TypeId} {d : TypeDesc} {z : Value} {s by_ b : Nat} {cs : List Value} {fr : Nat × Nat} (hr : fn.results = #[.cell a T, .tmp c, .tmp e]) (hu : P.underlying T = some d) (ha : aggB d = true) (hi : Inf P T z s by_) (hp : ρ a = .pointer (some ⟨b, 0, none⟩)) (hO : O[i]? = some (objI b (.cells cs.toArray E fr))) (hl : cs.length = s) (hc' : ρ c = u) (he' : ρ e = x)
  (h : R (.tuple #[.agg cs.toArray, u, x]) O) : Res P base fn ρ O R :=
 ⟨⟨_, O, Sub.of (List.Sublist.refl _), h, fun w tmps hI ht => by
  have := run_loadBox (P := P) hu ha hi hl (hI.objAt hO)
  have ht' := ht a
  have hc := ht c
  have he := ht e
  simp only [Array.getD_eq_getD_getElem?] at ht' hc he
  simp [results, hr, ht', hc, hc', he, he', hp, asAddr, this]⟩⟩
def l00 : LK := ⟨none, 0, none, 0⟩
theorem T.nilL {P : Program} {r : Option Nat} {base : World} {n : Nat} {c : Code} {Q : Post} {ρ : Env} {O : List Item} (U8 : TypeId) (h : T P r base n c Q ρ (lI U8 nilLa l00 :: O)) : T P r base n c Q ρ O :=
 T.nilRow U8 1 (T.nilRow U8 1 (T.pack (φ := True) (L := [rowI none 0 U8 1 [], rowI none 0 U8 1 []] ++ []) (M := O) trivial h))
theorem FdR.yes {d : DFA} {al one two : Nat → Bool} {b : Bool} {l : La} (h : FdR d al one two b l) (hb : b = true) : FindOk d al one two (some l) := by unfold FdR at h; rwa [if_pos hb] at h
theorem FdR.no {d : DFA} {al one two : Nat → Bool} {b : Bool} {l : La} (h : FdR d al one two b l) (hb : ¬ b = true) : l = nilLa ∧ ¬ HasD d al one two := by unfold FdR at h; rwa [if_neg hb] at h
def NoD (p q : Par) (i j : Nat) : Prop := ((i : Int) ∈ p.prio) → ((j : Int) ∈ q.prio) → ¬ HasD (prG p q) (alD p q i j) (fun v => decide (f1 p q v = i)) (fun v => decide (f2 q v = j))
theorem noD_all {p q : Par} (h : ∀ i, i < 17 → ∀ j, j ≤ 16 → i % 2 ≠ j % 2 → NoD p q i j) : ¬ differP p q := fun ⟨i, j, h1, h2, h3, h4, h5, h6⟩ => h i (by omega) j h3 h1 h4 h5 h6
theorem prio_nat {p : Par} (hv : ValidP p) (i : Nat) : i ∈ p.prio.map Int.toNat ↔ ((i : Nat) : Int) ∈ p.prio := by
 rw [List.mem_map]
 constructor
 ·rintro ⟨a, ha, rfl⟩
  rw [Int.toNat_of_nonneg (hv.pr a ha).1]; exact ha
 ·exact fun h => ⟨_, h, Int.toNat_natCast i⟩
theorem prio_nats {p : Par} (hv : ValidP p) : nats (p.prio.map Int.toNat) = ints p.prio := by
 unfold nats ints
 rw [List.map_map]
 refine List.map_congr_left fun a ha => ?_
 show Value.int .i64 ((a.toNat : Nat) : Int) = _
 rw [Int.toNat_of_nonneg (hv.pr a ha).1]
end Go.Lx


namespace Go.Proofs.YtnikhiohindggaaDoor
open Go.Lx Go.RowKit _root_.Go.Proofs.Tryd
theorem parWit (w : World) [Tab Tryd.prog w] (p : Par) (k : DK) (h : AtP w p k) (hB : ParC p) :
  PureT Tryd.prog 30 [pV p k] w fun v N => ∃ (l : La) (kl : LK) (e : Nat), v = .tuple #[lV l kl, vI ((e : Nat) : Int)] ∧ N = [lI 5 l kl] ∧ WiR p l e := by
 refine CallT.enter func30 rfl ntmps30 rfl ?_
 have hBn := hB.n; have hBf := hB.f
 refine T.s (T.rg (TO.l rfl (l_box (v := (pV p k)) (cs := (pC p k)) rfl rfl (fun bx1 => ?_))))
 refine TO.l rfl (l_alloc inf28 rfl (fun bx2 => ?_))
 refine TO.qa rfl (TO.nl (T.s (T.s (T.rg (TO.q (q_la 1 underlying25 rfl inf25 rfl rfl rfl) ?_)))))
 have hk10 := fun (w1 : World) (hI : Inv w [oI bx2 28 [nS, nS], oI bx1 25 (pC p k)] w1) => (haveI := Inv.tab (P := Tryd.prog) hI; parCheck w1 p k (hI.atQ h) hB)
 refine TO.l rfl (l_call ent20 (CallT.op hk10) rfl ?_)
 clear hk10
 rintro vr O' ⟨N, rfl, rfl, rfl⟩
 refine TO.qa rfl (TO.nl (T.s (T.rg (TO.qm rfl (TO.q (q_neq rfl rfl) (TO.nl (T.condP rfl (fun hc => ?_) (fun hc => ?_))))))))
 ·have hlt12 : checkP p ≠ 0 := by omega
  refine T.s ?_
  refine T.nilL 5 ?_
  refine T.rg (TO.q (q_build plan28 inf28 rfl) (TO.qm rfl (TO.l rfl (l_sb (v := (.agg #[nS, nS])) (vs := [nS, nS]) 1 inf28 rfl rfl rfl rfl rfl rfl (by simp [putL]) ?_))))
  refine TO.qa rfl (TO.nl (T.ret (Res.drop ?_)))
  refine Res.cell1b (vI (checkP p : Int)) (i := 1) Tryd.results30 underlying28 rfl inf28 rfl rfl rfl rfl ?_
  exact ⟨[lI 5 nilLa l00], (by exact Sub.k .z), nilLa, l00, checkP p, rfl, rfl, .inl ⟨by omega, rfl, rfl⟩⟩
 have hge12 : ¬ checkP p ≠ 0 := by omega
 have he0 : checkP p = 0 := by omega
 have hv : ValidP p := checkP_zero.1 he0
 refine T.skip (T.s (T.s (T.rg (TO.l rfl (l_alloc inf3 rfl (fun bx3 => ?_))))))
 refine TO.l rfl (l_sb (v := vI 0) (vs := [(vI 0)]) 0 inf3 rfl rfl rfl rfl rfl rfl (by simp [putL]) ?_)
 refine TO.nl (T.block ?_)
 refine T.loopS (fun (a : Nat) ρ O => ∃ (kb : Nat), O = [oI kb 3 [vI ((a : Nat) : Int)], oI bx2 28 [nS, nS], oI bx1 25 (pC p k)] ∧ a % 2 = 0 ∧ a ≤ 18 ∧ (∀ k9, k9 < a → k9 % 2 = 0 → ¬ HasD p.d (alW p k9) (topW p k9) (topW p k9)) ∧ Heads [(0, (pV p k)), (1, (.pointer (aD bx1))), (2, (.pointer (aD bx2))), (4, vI (checkP p : Int)), (5, (.pointer (aD kb)))] ρ) (fun a => 18 - a) 0 ?_ ?_
 ·exact ⟨bx3, rfl, rfl, by omega, (fun k9 h9 => absurd h9 (by omega)), (.of rfl)⟩
 rintro a ρ O ⟨kb, rfl, hev, ha18, hno, hH⟩
 obtain ⟨ρ0, rfl⟩ := hH.elim
 clear hH
 refine T.s (T.s (T.rg (TO.q (q_lb 0 underlying3 rfl rfl rfl rfl) (TO.q (q_leq rfl rfl) (TO.nl (T.condP rfl (fun hc => ?_) (fun hc => ?_)))))))
 ·have hlt16 : a ≤ 16 := by omega
  refine T.skip (T.s (T.block (T.s (T.rg (TO.q (q_makeFunc) (TO.qa rfl (TO.nl (T.s (T.rg (TO.q (q_la 2 underlying25 rfl inf25 rfl rfl rfl) (TO.q (q_makeFunc) (TO.qm rfl (TO.qm rfl ?_)))))))))))))
  have hk25 := fun (w1 : World) (hI : Inv w [oI kb 3 [vI ((a : Nat) : Int)], oI bx2 28 [nS, nS], oI bx1 25 (pC p k)] w1) => (haveI := Inv.tab (P := Tryd.prog) hI; findC w1 p k (hI.atQ h) hv.val hv.n4 hv.letN6 [] (alW p a) (topW p a) (topW p a) (.func (.func 67) #[] #[(.pointer (aD bx1)), (.pointer (aD kb))]) (.func (.func 66) #[] #[(.pointer (aD bx1)), (.pointer (aD kb))]) (.func (.func 66) #[] #[(.pointer (aD bx1)), (.pointer (aD kb))]) rfl (fun u hu => CallV.rebase (B := [oI bx1 25 (pC p k), oI kb 3 [vI ((a : Nat) : Int)]]) (hI.subp (by exact Sub.pull [oI kb 3 [vI ((a : Nat) : Int)], oI bx2 28 [nS, nS]] _ (.k .z))) (Exact.obj (Exact.obj Exact.nil)) (CallV.of_fn (first := []) (args := [vI ((u : Nat) : Int)]) (caps := [(.pointer (aD bx1)), (.pointer (aD kb))]) ent67 (leF w p k h hv bx1 kb a u hu))) (fun u hu => CallV.rebase (B := [oI bx1 25 (pC p k), oI kb 3 [vI ((a : Nat) : Int)]]) (hI.subp (by exact Sub.pull [oI kb 3 [vI ((a : Nat) : Int)], oI bx2 28 [nS, nS]] _ (.k .z))) (Exact.obj (Exact.obj Exact.nil)) (CallV.of_fn (first := []) (args := [vI ((u : Nat) : Int)]) (caps := [(.pointer (aD bx1)), (.pointer (aD kb))]) ent66 (topF w p k h hv bx1 kb a u hu))) (fun u hu => CallV.rebase (B := [oI bx1 25 (pC p k), oI kb 3 [vI ((a : Nat) : Int)]]) (hI.subp (by exact Sub.pull [oI kb 3 [vI ((a : Nat) : Int)], oI bx2 28 [nS, nS]] _ (.k .z))) (Exact.obj (Exact.obj Exact.nil)) (CallV.of_fn (first := []) (args := [vI ((u : Nat) : Int)]) (caps := [(.pointer (aD bx1)), (.pointer (aD kb))]) ent66 (topF w p k h hv bx1 kb a u hu))))
  refine TO.l rfl (l_call ent63 (CallT.op hk25) rfl ?_)
  clear hk25
  rintro vr O' ⟨N, rfl, b9, l9, kl9, rfl, rfl, hf9⟩
  refine TO.qm rfl (TO.q (q_extract (vs := _) rfl rfl) (TO.q (q_extract (vs := _) rfl rfl) (TO.l rfl (l_alloc inf28 rfl (fun bx4 => ?_)))))
  refine TO.l rfl (l_sb (v := (lV l9 kl9)) (vs := (lC l9 kl9)) 0 inf28 rfl rfl rfl rfl rfl rfl (by simp [putL]) ?_)
  refine TO.qa rfl (TO.nl (T.s (T.rg (TO.qm rfl (TO.nl (T.condP (p := b9 = true) (congrArg Value.bool (by cases b9 <;> rfl)) (fun hc => ?_) (fun hc => ?_)))))))
  ·have hfs := hf9.yes hc
   refine T.s (T.rg (TO.q (q_la 0 underlying28 rfl inf28 rfl rfl rfl) (TO.l rfl (l_sb (v := (lV l9 kl9)) (vs := (lC l9 kl9)) 3 inf28 rfl rfl rfl rfl rfl rfl (by simp [putL]) ?_))))
   refine TO.qa rfl (TO.nl (T.ret (Res.drop ?_)))
   refine Res.cell1b (vI 0) (i := 3) Tryd.results30 underlying28 rfl inf28 rfl rfl rfl rfl ?_
   exact ⟨[lI 5 l9 kl9], (by exact Sub.d (.k .z)), l9, kl9, 0, rfl, rfl, .inr (.inl ⟨he0, rfl, a, hev, by omega, hfs⟩)⟩
  have hnf := hf9.no hc
  refine T.skip (T.s (T.s (T.rg (TO.q (q_lb 2 underlying3 rfl rfl rfl rfl) (TO.nl (T.rg (TO.l rfl (l_alloc inf3 rfl (fun bx5 => ?_)))))))))
  refine TO.l rfl (l_sb (v := vI ((a : Nat) : Int)) (vs := [(vI ((a : Nat) : Int))]) 0 inf3 rfl rfl rfl rfl rfl rfl (by simp [putL]) ?_)
  refine TO.nl (T.rg (TO.q (q_lb 0 underlying3 rfl rfl rfl rfl) (TO.q (q_addN (a := a) (b := 2) rfl rfl (by omega)) (TO.l rfl (l_sb (v := vI ((a + 2 : Nat) : Int)) (vs := [(vI ((a + 2 : Nat) : Int))]) 0 inf3 rfl rfl rfl rfl rfl rfl (by simp [putL]) ?_)))))
  refine TO.nl ?_
  exact ⟨a + 2, by omega, [oI bx5 3 [(vI ((a + 2 : Nat) : Int))], oI bx2 28 [nS, nS], oI bx1 25 (pC p k)], (by exact Sub.k (.d (.d (.d (.k (.k .z)))))), bx5, rfl, by omega, by omega, (fun k9 h9 e9 => if hlt : k9 < a then hno k9 hlt e9 else by obtain rfl : k9 = a := (by omega); exact hnf.2), (.of rfl)⟩
 have hge16 : ¬ a ≤ 16 := by omega
 refine T.exit ?_
 refine T.s ?_
 refine T.nilL 5 ?_
 refine T.rg (TO.q (q_build plan28 inf28 rfl) (TO.l rfl (l_sb (v := (.agg #[nS, nS])) (vs := [nS, nS]) 2 inf28 rfl rfl rfl rfl rfl rfl (by simp [putL]) ?_)))
 refine TO.qa rfl (TO.nl (T.ret (Res.drop ?_)))
 refine Res.cell1b (vI 9) (i := 2) Tryd.results30 underlying28 rfl inf28 rfl rfl rfl rfl ?_
 exact ⟨[lI 5 nilLa l00], (by exact Sub.k .z), nilLa, l00, 9, rfl, rfl, .inr (.inr ⟨he0, rfl, rfl, fun ⟨k9, h1, h2, h3⟩ => hno k9 (by omega) h1 h3⟩)⟩
end Go.Proofs.YtnikhiohindggaaDoor


namespace Go.Proofs.YtnikhiohindggaaDoor
open Go.Lx Go.RowKit _root_.Go.Proofs.Tryd
theorem containsP (w : World) [Tab Tryd.prog w] (p : Par) (k : DK) (h : AtP w p k) (hv : ValidP p) (i : Nat) :
  PureT Tryd.prog 61 [.slice k.fb p.prio.length k.fc, vI ((i : Nat) : Int)] w fun r N => r = .bool (decide (((i : Nat) : Int) ∈ p.prio)) ∧ N = [] := by
 have h9 := containsN w k.fb k.fc (p.prio.map Int.toNat) (by rw [prio_nats hv]; exact h.prio) (by rw [List.length_map, hv.pl]; have := hv.n4; omega) i
 rw [List.length_map, show decide (i ∈ p.prio.map Int.toNat) = decide (((i : Nat) : Int) ∈ p.prio) from decide_eq_decide.2 (prio_nat hv i)] at h9
 exact h9
theorem parDif (w : World) [Tab Tryd.prog w] (p : Par) (k : DK) (h : AtP w p k) (q : Par) (k2 : DK) (h2 : AtP w q k2) (hB : ParC p) (hB2 : ParC q) (hsz : diE p q = 0 → p.next.length * q.next.length ≤ 4096) :
  PureT Tryd.prog 29 [pV p k, pV q k2] w fun v N => ∃ (l : La) (kl : LK) (b : Bool) (e : Nat), v = .tuple #[lV l kl, .bool b, vI ((e : Nat) : Int)] ∧ N = [lI 5 l kl] ∧ DiR p q l b e := by
 refine CallT.enter func29 rfl ntmps29 rfl ?_
 have hBn := hB.n; have hBf := hB.f
 refine T.s (T.rg (TO.l rfl (l_box (v := (pV p k)) (cs := (pC p k)) rfl rfl (fun bx1 => ?_))))
 refine TO.l rfl (l_box (v := (pV q k2)) (cs := (pC q k2)) rfl rfl (fun bx2 => ?_))
 refine TO.l rfl (l_alloc inf28 rfl (fun bx3 => ?_))
 refine TO.qa rfl (TO.qa rfl (TO.nl (T.s (T.s (T.rg (TO.q (q_la 2 underlying25 rfl inf25 rfl rfl rfl) (TO.q (q_la 1 underlying25 rfl inf25 rfl rfl rfl) (TO.l rfl (l_buildSlice (m := 2) (parts := [(0, _), (1, _)]) (cs := [(vI p.vars), (vI p.start), (.slice k.nb p.next.length k.nc), (.slice k.fb p.prio.length k.fc), (vI q.vars), (vI q.start), (.slice k2.nb q.next.length k2.nc), (.slice k2.fb q.prio.length k2.fc)]) underlying59 inf25 (by decide) (by kernel_rfl) rfl (fun bx4 => ?_))))))))))
 refine TO.q (q_len underlying59 rfl) (TO.qm rfl (TO.nl (T.block ?_)))
 refine T.rounds 3 (T.round ?_)
 refine T.s (T.rg (TO.q (QT.toB (q_lss rfl rfl) (b' := true) rfl) (TO.nl (T.s ?_))))
 refine T.cond1 rfl ?_
 refine T.skip (T.s (T.block (T.s (T.rg (TO.q (q_ixK (i := 0) underlying59 inf25 rfl rfl (rowO (mG 0 rfl)) (by first | assumption | omega | (simp; omega) | simp_all) (by first | omega | (simp; done) | (simp; omega) | (simp_all; done) | (simp_all; omega))) (TO.q (q_ldK (vs := (pC p k)) underlying25 rfl inf25 rfl rfl (Nat.succ_pos _) (rowO (mG 0 rfl)) (fun j hj => by match j, hj with | 0, _ => rfl | 1, _ => rfl | 2, _ => rfl | 3, _ => rfl)) (TO.l rfl (l_alloc inf25 rfl (fun bx5 => ?_)))))))))
 refine TO.l rfl (l_sb (v := (pV p k)) (vs := (pC p k)) 0 inf25 rfl rfl rfl rfl rfl rfl (by simp [putL]) ?_)
 refine TO.nl (T.s (T.rg (TO.q (q_la 0 underlying25 rfl inf25 rfl rfl rfl) ?_)))
 have hk24 := fun (w1 : World) (hI : Inv w [oI bx5 25 (pC p k), rowI (aD bx4) 2 25 4 [(vI p.vars), (vI p.start), (.slice k.nb p.next.length k.nc), (.slice k.fb p.prio.length k.fc), (vI q.vars), (vI q.start), (.slice k2.nb q.next.length k2.nc), (.slice k2.fb q.prio.length k2.fc)], oI bx3 28 [nS, nS], oI bx2 25 (pC q k2), oI bx1 25 (pC p k)] w1) => (haveI := Inv.tab (P := Tryd.prog) hI; parCheck w1 p k (hI.atQ h) hB)
 refine TO.l rfl (l_call ent20 (CallT.op hk24) rfl ?_)
 clear hk24
 rintro vr O' ⟨N, rfl, rfl, rfl⟩
 refine TO.qa rfl (TO.nl (T.s (T.rg (TO.qm rfl (TO.q (q_neq rfl rfl) (TO.nl (T.condP rfl (fun hc => ?_) (fun hc => ?_))))))))
 ·have hlt26 : checkP p ≠ 0 := by omega
  have hdn : diE p q = checkP p := by unfold diE; rw [if_pos (by omega)]
  have hdz : diE p q ≠ 0 := by omega
  refine T.s ?_
  refine T.nilL 5 ?_
  refine T.rg (TO.q (q_la 3 underlying28 rfl inf28 rfl rfl rfl) (TO.qm rfl (TO.l rfl (l_sb (v := (.agg #[nS, nS])) (vs := [nS, nS]) 3 inf28 rfl rfl rfl rfl rfl rfl (by simp [putL]) ?_))))
  refine TO.qa rfl (TO.qa rfl (TO.nl (T.ret (Res.drop ?_))))
  refine Res.cell1c (i := 3) (.bool false) (vI (checkP p : Int)) Tryd.results29 underlying28 rfl inf28 rfl rfl rfl rfl rfl ?_
  exact ⟨[lI 5 nilLa l00], (by exact Sub.k .z), nilLa, l00, false, checkP p, rfl, rfl, .inl ⟨hdz, hdn.symm, rfl, rfl⟩⟩
 have hge26 : ¬ checkP p ≠ 0 := by omega
 have he1 : checkP p = 0 := by omega
 refine T.skip (T.rg (TO.q (QT.cast (q_add64 rfl rfl (by omega)) (v' := vI 1) rfl) (TO.qm rfl (TO.nl ?_))))
 refine Rnd.reset [oI bx5 25 (pC p k), rowI (aD bx4) 2 25 4 [(vI p.vars), (vI p.start), (.slice k.nb p.next.length k.nc), (.slice k.fb p.prio.length k.fc), (vI q.vars), (vI q.start), (.slice k2.nb q.next.length k2.nc), (.slice k2.fb q.prio.length k2.fc)], oI bx3 28 [nS, nS], oI bx2 25 (pC q k2), oI bx1 25 (pC p k)] [(0, (pV p k)), (1, (pV q k2)), (2, (.pointer (aD bx1))), (3, (.pointer (aD bx2))), (4, (.pointer (aD bx3))), (5, .bool false), (6, vI 0), (8, (.pointer (aD bx5))), (9, vI (checkP p : Int)), (15, (pV p k)), (16, (pV q k2)), (17, (.slice (aD bx4) 2 2)), (18, vI 2), (19, vI 1)] rfl (.of rfl) (fun ρ0 => ?_)
 refine T.round ?_
 refine T.s (T.rg (TO.q (QT.toB (q_lss rfl rfl) (b' := true) rfl) (TO.nl (T.s ?_))))
 refine T.cond1 rfl ?_
 refine T.skip (T.s (T.block (T.s (T.rg (TO.q (q_ixK (i := 1) underlying59 inf25 rfl rfl (rowO (mG 1 rfl)) (by first | assumption | omega | (simp; omega) | simp_all) (by first | omega | (simp; done) | (simp; omega) | (simp_all; done) | (simp_all; omega))) (TO.q (q_ldK (vs := (pC q k2)) underlying25 rfl inf25 rfl rfl (Nat.succ_pos _) (rowO (mG 1 rfl)) (fun j hj => by match j, hj with | 0, _ => rfl | 1, _ => rfl | 2, _ => rfl | 3, _ => rfl)) (TO.l rfl (l_alloc inf25 rfl (fun bx6 => ?_)))))))))
 refine TO.l rfl (l_sb (v := (pV q k2)) (vs := (pC q k2)) 0 inf25 rfl rfl rfl rfl rfl rfl (by simp [putL]) ?_)
 refine TO.nl (T.s (T.rg (TO.q (q_la 0 underlying25 rfl inf25 rfl rfl rfl) ?_)))
 have hk24 := fun (w1 : World) (hI : Inv w [oI bx6 25 (pC q k2), oI bx5 25 (pC p k), rowI (aD bx4) 2 25 4 [(vI p.vars), (vI p.start), (.slice k.nb p.next.length k.nc), (.slice k.fb p.prio.length k.fc), (vI q.vars), (vI q.start), (.slice k2.nb q.next.length k2.nc), (.slice k2.fb q.prio.length k2.fc)], oI bx3 28 [nS, nS], oI bx2 25 (pC q k2), oI bx1 25 (pC p k)] w1) => (haveI := Inv.tab (P := Tryd.prog) hI; parCheck w1 q k2 (hI.atQ h2) hB2)
 refine TO.l rfl (l_call ent20 (CallT.op hk24) rfl ?_)
 clear hk24
 rintro vr O' ⟨N, rfl, rfl, rfl⟩
 refine TO.qa rfl (TO.nl (T.s (T.rg (TO.qm rfl (TO.q (q_neq rfl rfl) (TO.nl (T.condP rfl (fun hc => ?_) (fun hc => ?_))))))))
 ·have hlt26 : checkP q ≠ 0 := by omega
  have hdn : diE p q = checkP q := by unfold diE; rw [if_neg (by omega), if_pos (by omega)]
  have hdz : diE p q ≠ 0 := by omega
  refine T.s ?_
  refine T.nilL 5 ?_
  refine T.rg (TO.q (q_la 4 underlying28 rfl inf28 rfl rfl rfl) (TO.qm rfl (TO.l rfl (l_sb (v := (.agg #[nS, nS])) (vs := [nS, nS]) 4 inf28 rfl rfl rfl rfl rfl rfl (by simp [putL]) ?_))))
  refine TO.qa rfl (TO.qa rfl (TO.nl (T.ret (Res.drop ?_))))
  refine Res.cell1c (i := 4) (.bool false) (vI (checkP q : Int)) Tryd.results29 underlying28 rfl inf28 rfl rfl rfl rfl rfl ?_
  exact ⟨[lI 5 nilLa l00], (by exact Sub.k .z), nilLa, l00, false, checkP q, rfl, rfl, .inl ⟨hdz, hdn.symm, rfl, rfl⟩⟩
 have hge26 : ¬ checkP q ≠ 0 := by omega
 have he2 : checkP q = 0 := by omega
 refine T.skip (T.rg (TO.q (QT.cast (q_add64 rfl rfl (by omega)) (v' := vI 2) rfl) (TO.qm rfl (TO.nl ?_))))
 refine Rnd.reset [oI bx6 25 (pC q k2), oI bx5 25 (pC p k), rowI (aD bx4) 2 25 4 [(vI p.vars), (vI p.start), (.slice k.nb p.next.length k.nc), (.slice k.fb p.prio.length k.fc), (vI q.vars), (vI q.start), (.slice k2.nb q.next.length k2.nc), (.slice k2.fb q.prio.length k2.fc)], oI bx3 28 [nS, nS], oI bx2 25 (pC q k2), oI bx1 25 (pC p k)] [(0, (pV p k)), (1, (pV q k2)), (2, (.pointer (aD bx1))), (3, (.pointer (aD bx2))), (4, (.pointer (aD bx3))), (5, .bool false), (6, vI 0), (8, (.pointer (aD bx6))), (9, vI (checkP q : Int)), (15, (pV p k)), (16, (pV q k2)), (17, (.slice (aD bx4) 2 2)), (18, vI 2), (19, vI 2)] rfl (.of rfl) (fun ρ0 => ?_)
 refine T.round ?_
 refine T.s (T.rg (TO.q (QT.toB (q_lss rfl rfl) (b' := false) rfl) (TO.nl (T.s (T.cond0 rfl ?_)))))
 refine T.exit ?_
 refine T.s (T.s (T.rg (TO.q (q_fa underlying25 rfl inf3 rfl rfl) (TO.q (q_lb 5 underlying3 rfl rfl rfl rfl) (TO.q (q_fa underlying25 rfl inf3 rfl rfl) (TO.q (q_lb 4 underlying3 rfl rfl rfl rfl) (TO.q (q_neq rfl rfl) (TO.nl (T.condP (p := ¬ p.vars = q.vars) rfl (fun hc => ?_) (fun hc => ?_))))))))))
 ·have hdn : diE p q = 7 := by unfold diE; rw [if_neg (by omega), if_neg (by omega), if_pos hc]
  have hdz : diE p q ≠ 0 := by omega
  refine T.s ?_
  refine T.nilL 5 ?_
  refine T.rg (TO.q (q_la 4 underlying28 rfl inf28 rfl rfl rfl) (TO.l rfl (l_sb (v := (.agg #[nS, nS])) (vs := [nS, nS]) 4 inf28 rfl rfl rfl rfl rfl rfl (by simp [putL]) ?_)))
  refine TO.qa rfl (TO.qa rfl (TO.nl (T.ret (Res.drop ?_))))
  refine Res.cell1c (i := 4) (.bool false) (vI 7) Tryd.results29 underlying28 rfl inf28 rfl rfl rfl rfl rfl ?_
  exact ⟨[lI 5 nilLa l00], (by exact Sub.k .z), nilLa, l00, false, 7, rfl, rfl, .inl ⟨hdz, hdn.symm, rfl, rfl⟩⟩
 have hvv : p.vars = q.vars := Classical.not_not.1 hc
 have hv : ValidP p := checkP_zero.1 he1
 have hq : ValidP q := checkP_zero.1 he2
 have hd0 : diE p q = 0 := diE_zero.2 ⟨hv, hq, hvv⟩
 have hnm := hsz hd0
 have hpn : (pairP p q).next.length = p.next.length * q.next.length := prNext_len p.d q.d
 have hGv : Val (pairP p q).d := (prP_valid hv hq hvv (f := fun _ => 0) (fun _ => Nat.zero_le _) hnm).val
 have hGw : letN (pairP p q).d ≤ 64 := hv.letN6
 refine T.skip ?_
 refine T.cut (fun ρ O => ∃ (zT zM : Nat) (k9 : DK), O = [oI zT 25 (pC (pairP p q) k9), oI zM 3 [(vI (q.next.length : Int))], pI 23 3 (pairP p q) k9, oI bx6 25 (pC q k2), oI bx5 25 (pC p k), rowI (aD bx4) 2 25 4 [(vI p.vars), (vI p.start), (.slice k.nb p.next.length k.nc), (.slice k.fb p.prio.length k.fc), (vI q.vars), (vI q.start), (.slice k2.nb q.next.length k2.nc), (.slice k2.fb q.prio.length k2.fc)], oI bx3 28 [nS, nS], oI bx2 25 (pC q k2), oI bx1 25 (pC p k)] ∧ Heads [(0, (pV p k)), (1, (pV q k2)), (2, (.pointer (aD bx1))), (3, (.pointer (aD bx2))), (4, (.pointer (aD bx3))), (5, .bool false), (6, vI 0), (8, (.pointer (aD bx6))), (9, vI (checkP q : Int)), (10, (.pointer (aD zT))), (11, (.pointer (aD zM)))] ρ) ?_ ?_
 ·refine T.tree [oI bx6 25 (pC q k2), oI bx5 25 (pC p k), oI bx2 25 (pC q k2), oI bx1 25 (pC p k)] 10 mixed rfl (by exact Sub.k (.k (.d (.d (.k (.k .z)))))) (fun _ _ _ h => h) ?_
  refine RO.quietT 0 rfl (by kernel_rfl) (q_la 3 underlying25 rfl inf25 rfl rfl rfl) ?_
  refine RO.quietT 1 rfl (by kernel_rfl) (q_la 2 underlying25 rfl inf25 rfl rfl rfl) ?_
  refine RO.quietT 3 rfl (by kernel_rfl) (q_fa underlying25 rfl inf22 rfl rfl) ?_
  refine RO.quietT 4 rfl (by kernel_rfl) (q_lb 2 underlying22 rfl rfl rfl rfl) ?_
  refine RO.quietT 5 rfl (by kernel_rfl) (q_len underlying22 rfl) ?_
  have hk38 := fun (w1 : World) (hI : Inv w [oI bx6 25 (pC q k2), oI bx5 25 (pC p k), rowI (aD bx4) 2 25 4 [(vI p.vars), (vI p.start), (.slice k.nb p.next.length k.nc), (.slice k.fb p.prio.length k.fc), (vI q.vars), (vI q.start), (.slice k2.nb q.next.length k2.nc), (.slice k2.fb q.prio.length k2.fc)], oI bx3 28 [nS, nS], oI bx2 25 (pC q k2), oI bx1 25 (pC p k)] w1) => (haveI := Inv.tab (P := Tryd.prog) hI; pairC w1 p k (hI.atQ h) hv q k2 (hI.atQ h2) hq hvv hnm)
  refine RO.fork [2, 6, 7] (by kernel_rfl) rfl ⟨⟨_, rfl, rfl, l_call ent60 (CallT.op hk38) rfl ?_⟩, ⟨_, rfl, rfl, l_alloc inf25 rfl (fun zT => ⟨by exact Sub.d (.k (.k (.d (.d (.k (.k .z)))))), ?_⟩)⟩, ⟨_, rfl, rfl, l_alloc inf3 rfl (fun zM => ⟨by exact Sub.d (.k (.k (.d (.d (.k (.k .z)))))), ?_⟩)⟩, trivial⟩
  ·clear hk38
   rintro vr O' ⟨N, rfl, k9, rfl, rfl⟩
   refine ⟨by exact Sub.d (.k (.k (.d (.d (.k (.k .z)))))), ?_⟩
   refine RO.fork [6, 7] (by kernel_rfl) rfl ⟨⟨_, rfl, rfl, l_alloc inf25 rfl (fun zT => ⟨by exact Sub.d (.d (.k (.k (.d (.d (.k (.k .z))))))), ?_⟩)⟩, ⟨_, rfl, rfl, l_alloc inf3 rfl (fun zM => ⟨by exact Sub.d (.d (.k (.k (.d (.d (.k (.k .z))))))), ?_⟩)⟩, trivial⟩
   ·refine RO.fork [7] (by kernel_rfl) rfl ⟨⟨_, rfl, rfl, l_alloc inf3 rfl (fun zM => ⟨by exact Sub.d (.d (.d (.k (.k (.d (.d (.k (.k .z)))))))), ?_⟩)⟩, trivial⟩
    refine RO.fork [8] (by kernel_rfl) rfl ⟨⟨_, rfl, rfl, l_sb (v := (pV (pairP p q) k9)) (vs := (pC (pairP p q) k9)) 1 inf25 rfl rfl rfl rfl rfl rfl (by simp [putL]) ⟨by exact Sub.d (.d (.d (.k (.k (.d (.d (.k (.k .z)))))))), ?_⟩⟩, trivial⟩
    refine RO.fork [9] (by kernel_rfl) rfl ⟨⟨_, rfl, rfl, l_sb (v := vI (q.next.length : Int)) (vs := [(vI (q.next.length : Int))]) 0 inf3 rfl rfl rfl rfl rfl rfl (by simp [putL]) ⟨by exact Sub.d (.d (.d (.k (.k (.d (.d (.k (.k .z)))))))), ?_⟩⟩, trivial⟩
    exact RO.fin (by kernel_rfl) ⟨zT, zM, k9, rfl, (.of rfl)⟩ (by exact Sub.pull [oI zM 3 [(vI (q.next.length : Int))]] _ (.k (.k (.k (.k (.k (.k (.k (.k .z)))))))))
   refine RO.fork [6] (by kernel_rfl) rfl ⟨⟨_, rfl, rfl, l_alloc inf25 rfl (fun zT => ⟨by exact Sub.d (.d (.d (.k (.k (.d (.d (.k (.k .z)))))))), ?_⟩)⟩, trivial⟩
   refine RO.fork [8] (by kernel_rfl) rfl ⟨⟨_, rfl, rfl, l_sb (v := (pV (pairP p q) k9)) (vs := (pC (pairP p q) k9)) 0 inf25 rfl rfl rfl rfl rfl rfl (by simp [putL]) ⟨by exact Sub.d (.d (.d (.k (.k (.d (.d (.k (.k .z)))))))), ?_⟩⟩, trivial⟩
   refine RO.fork [9] (by kernel_rfl) rfl ⟨⟨_, rfl, rfl, l_sb (v := vI (q.next.length : Int)) (vs := [(vI (q.next.length : Int))]) 1 inf3 rfl rfl rfl rfl rfl rfl (by simp [putL]) ⟨by exact Sub.d (.d (.d (.k (.k (.d (.d (.k (.k .z)))))))), ?_⟩⟩, trivial⟩
   exact RO.fin (by kernel_rfl) ⟨zT, zM, k9, rfl, (.of rfl)⟩ (by exact Sub.rf)
  ·have hk38 := fun (w1 : World) (hI : Inv w [oI zT 25 [(vI 0), (vI 0), nS, nS], oI bx6 25 (pC q k2), oI bx5 25 (pC p k), rowI (aD bx4) 2 25 4 [(vI p.vars), (vI p.start), (.slice k.nb p.next.length k.nc), (.slice k.fb p.prio.length k.fc), (vI q.vars), (vI q.start), (.slice k2.nb q.next.length k2.nc), (.slice k2.fb q.prio.length k2.fc)], oI bx3 28 [nS, nS], oI bx2 25 (pC q k2), oI bx1 25 (pC p k)] w1) => (haveI := Inv.tab (P := Tryd.prog) hI; pairC w1 p k (hI.atQ h) hv q k2 (hI.atQ h2) hq hvv hnm)
   refine RO.fork [2, 7] (by kernel_rfl) rfl ⟨⟨_, rfl, rfl, l_call ent60 (CallT.op hk38) rfl ?_⟩, ⟨_, rfl, rfl, l_alloc inf3 rfl (fun zM => ⟨by exact Sub.d (.d (.k (.k (.d (.d (.k (.k .z))))))), ?_⟩)⟩, trivial⟩
   ·clear hk38
    rintro vr O' ⟨N, rfl, k9, rfl, rfl⟩
    refine ⟨by exact Sub.d (.d (.k (.k (.d (.d (.k (.k .z))))))), ?_⟩
    refine RO.fork [7] (by kernel_rfl) rfl ⟨⟨_, rfl, rfl, l_alloc inf3 rfl (fun zM => ⟨by exact Sub.d (.d (.d (.k (.k (.d (.d (.k (.k .z)))))))), ?_⟩)⟩, trivial⟩
    refine RO.fork [8] (by kernel_rfl) rfl ⟨⟨_, rfl, rfl, l_sb (v := (pV (pairP p q) k9)) (vs := (pC (pairP p q) k9)) 2 inf25 rfl rfl rfl rfl rfl rfl (by simp [putL]) ⟨by exact Sub.d (.d (.d (.k (.k (.d (.d (.k (.k .z)))))))), ?_⟩⟩, trivial⟩
    refine RO.fork [9] (by kernel_rfl) rfl ⟨⟨_, rfl, rfl, l_sb (v := vI (q.next.length : Int)) (vs := [(vI (q.next.length : Int))]) 0 inf3 rfl rfl rfl rfl rfl rfl (by simp [putL]) ⟨by exact Sub.d (.d (.d (.k (.k (.d (.d (.k (.k .z)))))))), ?_⟩⟩, trivial⟩
    exact RO.fin (by kernel_rfl) ⟨zT, zM, k9, rfl, (.of rfl)⟩ (by exact Sub.pull [oI zM 3 [(vI (q.next.length : Int))], pI 23 3 (pairP p q) k9] _ (.k (.k (.k (.k (.k (.k (.k (.k .z)))))))))
   have hk38 := fun (w1 : World) (hI : Inv w [oI zM 3 [(vI 0)], oI zT 25 [(vI 0), (vI 0), nS, nS], oI bx6 25 (pC q k2), oI bx5 25 (pC p k), rowI (aD bx4) 2 25 4 [(vI p.vars), (vI p.start), (.slice k.nb p.next.length k.nc), (.slice k.fb p.prio.length k.fc), (vI q.vars), (vI q.start), (.slice k2.nb q.next.length k2.nc), (.slice k2.fb q.prio.length k2.fc)], oI bx3 28 [nS, nS], oI bx2 25 (pC q k2), oI bx1 25 (pC p k)] w1) => (haveI := Inv.tab (P := Tryd.prog) hI; pairC w1 p k (hI.atQ h) hv q k2 (hI.atQ h2) hq hvv hnm)
   refine RO.fork [2] (by kernel_rfl) rfl ⟨⟨_, rfl, rfl, l_call ent60 (CallT.op hk38) rfl ?_⟩, trivial⟩
   clear hk38
   rintro vr O' ⟨N, rfl, k9, rfl, rfl⟩
   refine ⟨by exact Sub.d (.d (.d (.k (.k (.d (.d (.k (.k .z)))))))), ?_⟩
   refine RO.fork [8] (by kernel_rfl) rfl ⟨⟨_, rfl, rfl, l_sb (v := (pV (pairP p q) k9)) (vs := (pC (pairP p q) k9)) 2 inf25 rfl rfl rfl rfl rfl rfl (by simp [putL]) ⟨by exact Sub.d (.d (.d (.k (.k (.d (.d (.k (.k .z)))))))), ?_⟩⟩, trivial⟩
   refine RO.fork [9] (by kernel_rfl) rfl ⟨⟨_, rfl, rfl, l_sb (v := vI (q.next.length : Int)) (vs := [(vI (q.next.length : Int))]) 1 inf3 rfl rfl rfl rfl rfl rfl (by simp [putL]) ⟨by exact Sub.d (.d (.d (.k (.k (.d (.d (.k (.k .z)))))))), ?_⟩⟩, trivial⟩
   exact RO.fin (by kernel_rfl) ⟨zT, zM, k9, rfl, (.of rfl)⟩ (by exact Sub.pull [pI 23 3 (pairP p q) k9, oI zM 3 [(vI (q.next.length : Int))]] _ (.pull [pI 23 3 (pairP p q) k9] _ (.k (.k (.k (.k (.k (.k (.k .z)))))))))
  have hk38 := fun (w1 : World) (hI : Inv w [oI zM 3 [(vI 0)], oI bx6 25 (pC q k2), oI bx5 25 (pC p k), rowI (aD bx4) 2 25 4 [(vI p.vars), (vI p.start), (.slice k.nb p.next.length k.nc), (.slice k.fb p.prio.length k.fc), (vI q.vars), (vI q.start), (.slice k2.nb q.next.length k2.nc), (.slice k2.fb q.prio.length k2.fc)], oI bx3 28 [nS, nS], oI bx2 25 (pC q k2), oI bx1 25 (pC p k)] w1) => (haveI := Inv.tab (P := Tryd.prog) hI; pairC w1 p k (hI.atQ h) hv q k2 (hI.atQ h2) hq hvv hnm)
  refine RO.fork [2, 6] (by kernel_rfl) rfl ⟨⟨_, rfl, rfl, l_call ent60 (CallT.op hk38) rfl ?_⟩, ⟨_, rfl, rfl, l_alloc inf25 rfl (fun zT => ⟨by exact Sub.d (.d (.k (.k (.d (.d (.k (.k .z))))))), ?_⟩)⟩, trivial⟩
  ·clear hk38
   rintro vr O' ⟨N, rfl, k9, rfl, rfl⟩
   refine ⟨by exact Sub.d (.d (.k (.k (.d (.d (.k (.k .z))))))), ?_⟩
   refine RO.fork [6] (by kernel_rfl) rfl ⟨⟨_, rfl, rfl, l_alloc inf25 rfl (fun zT => ⟨by exact Sub.d (.d (.d (.k (.k (.d (.d (.k (.k .z)))))))), ?_⟩)⟩, trivial⟩
   refine RO.fork [8] (by kernel_rfl) rfl ⟨⟨_, rfl, rfl, l_sb (v := (pV (pairP p q) k9)) (vs := (pC (pairP p q) k9)) 0 inf25 rfl rfl rfl rfl rfl rfl (by simp [putL]) ⟨by exact Sub.d (.d (.d (.k (.k (.d (.d (.k (.k .z)))))))), ?_⟩⟩, trivial⟩
   refine RO.fork [9] (by kernel_rfl) rfl ⟨⟨_, rfl, rfl, l_sb (v := vI (q.next.length : Int)) (vs := [(vI (q.next.length : Int))]) 2 inf3 rfl rfl rfl rfl rfl rfl (by simp [putL]) ⟨by exact Sub.d (.d (.d (.k (.k (.d (.d (.k (.k .z)))))))), ?_⟩⟩, trivial⟩
   exact RO.fin (by kernel_rfl) ⟨zT, zM, k9, rfl, (.of rfl)⟩ (by exact Sub.k (.pull [pI 23 3 (pairP p q) k9] _ (.k (.k (.k (.k (.k (.k (.k .z)))))))))
  have hk38 := fun (w1 : World) (hI : Inv w [oI zT 25 [(vI 0), (vI 0), nS, nS], oI zM 3 [(vI 0)], oI bx6 25 (pC q k2), oI bx5 25 (pC p k), rowI (aD bx4) 2 25 4 [(vI p.vars), (vI p.start), (.slice k.nb p.next.length k.nc), (.slice k.fb p.prio.length k.fc), (vI q.vars), (vI q.start), (.slice k2.nb q.next.length k2.nc), (.slice k2.fb q.prio.length k2.fc)], oI bx3 28 [nS, nS], oI bx2 25 (pC q k2), oI bx1 25 (pC p k)] w1) => (haveI := Inv.tab (P := Tryd.prog) hI; pairC w1 p k (hI.atQ h) hv q k2 (hI.atQ h2) hq hvv hnm)
  refine RO.fork [2] (by kernel_rfl) rfl ⟨⟨_, rfl, rfl, l_call ent60 (CallT.op hk38) rfl ?_⟩, trivial⟩
  clear hk38
  rintro vr O' ⟨N, rfl, k9, rfl, rfl⟩
  refine ⟨by exact Sub.d (.d (.d (.k (.k (.d (.d (.k (.k .z)))))))), ?_⟩
  refine RO.fork [8] (by kernel_rfl) rfl ⟨⟨_, rfl, rfl, l_sb (v := (pV (pairP p q) k9)) (vs := (pC (pairP p q) k9)) 1 inf25 rfl rfl rfl rfl rfl rfl (by simp [putL]) ⟨by exact Sub.d (.d (.d (.k (.k (.d (.d (.k (.k .z)))))))), ?_⟩⟩, trivial⟩
  refine RO.fork [9] (by kernel_rfl) rfl ⟨⟨_, rfl, rfl, l_sb (v := vI (q.next.length : Int)) (vs := [(vI (q.next.length : Int))]) 2 inf3 rfl rfl rfl rfl rfl rfl (by simp [putL]) ⟨by exact Sub.d (.d (.d (.k (.k (.d (.d (.k (.k .z)))))))), ?_⟩⟩, trivial⟩
  exact RO.fin (by kernel_rfl) ⟨zT, zM, k9, rfl, (.of rfl)⟩ (by exact Sub.pull [pI 23 3 (pairP p q) k9] _ (.pull [pI 23 3 (pairP p q) k9] _ (.k (.k (.k (.k (.k (.k (.k .z)))))))))
 rintro ρ O ⟨zT, zM, k9, rfl, hH⟩
 obtain ⟨ρ0, rfl⟩ := hH.elim
 clear hH
 refine T.s (T.s (T.rg (TO.qm rfl (TO.nl (T.block ?_)))))
 refine T.loopS (fun (a : Nat) ρ O => ∃ (kz : LK), O = [oI zT 25 (pC (pairP p q) k9), oI zM 3 [(vI (q.next.length : Int))], pI 23 3 (pairP p q) k9, oI bx6 25 (pC q k2), oI bx5 25 (pC p k), rowI (aD bx4) 2 25 4 [(vI p.vars), (vI p.start), (.slice k.nb p.next.length k.nc), (.slice k.fb p.prio.length k.fc), (vI q.vars), (vI q.start), (.slice k2.nb q.next.length k2.nc), (.slice k2.fb q.prio.length k2.fc)], oI bx3 28 (lC nilLa kz), oI bx2 25 (pC q k2), oI bx1 25 (pC p k)] ∧ a ≤ 17 ∧ (∀ i9, i9 < a → ∀ j9, j9 ≤ 16 → i9 % 2 ≠ j9 % 2 → NoD p q i9 j9) ∧ Heads [(0, (pV p k)), (1, (pV q k2)), (2, (.pointer (aD bx1))), (3, (.pointer (aD bx2))), (4, (.pointer (aD bx3))), (5, .bool false), (8, (.pointer (aD bx6))), (9, vI (checkP q : Int)), (10, (.pointer (aD zT))), (11, (.pointer (aD zM))), (42, vI ((a : Nat) : Int))] ρ) (fun a => 17 - a) 0 ?_ ?_
 ·exact ⟨l00, rfl, by omega, (fun i9 h9 => absurd h9 (by omega)), (.of rfl)⟩
 rintro a ρ O ⟨kz, rfl, ha17, hnd, hH⟩
 obtain ⟨ρ0, rfl⟩ := hH.elim
 clear hH
 refine T.s (T.rg (TO.q (q_lss rfl rfl) (TO.nl (T.s (T.condP rfl (fun hc => ?_) (fun hc => ?_))))))
 ·have hlt43 : a < 17 := by omega
  refine T.skip (T.s (T.block (T.s (T.rg (TO.qm rfl (TO.l rfl (l_alloc inf3 rfl (fun bx7 => ?_))))))))
  refine TO.l rfl (l_sb (v := vI ((a : Nat) : Int)) (vs := [(vI ((a : Nat) : Int))]) 0 inf3 rfl rfl rfl rfl rfl rfl (by simp [putL]) ?_)
  refine TO.nl (T.s (T.rg (TO.q (q_lb 0 underlying3 rfl rfl rfl rfl) (TO.q (q_remN (a := a) (b := 2) rfl rfl (by omega)) (TO.q (q_subN (a := 1) (b := (a % 2)) rfl rfl (by omega) (by omega)) (TO.l rfl (l_alloc inf3 rfl (fun bx8 => ?_))))))))
  refine TO.l rfl (l_sb (v := vI ((1 - (a % 2) : Nat) : Int)) (vs := [(vI ((1 - (a % 2) : Nat) : Int))]) 0 inf3 rfl rfl rfl rfl rfl rfl (by simp [putL]) ?_)
  refine TO.nl (T.block ?_)
  refine T.loopS (fun (c : Nat) ρ O => ∃ (jb : Nat) (kz : LK), O = [oI jb 3 [vI ((c : Nat) : Int)], oI bx7 3 [(vI ((a : Nat) : Int))], oI zT 25 (pC (pairP p q) k9), oI zM 3 [(vI (q.next.length : Int))], pI 23 3 (pairP p q) k9, oI bx6 25 (pC q k2), oI bx5 25 (pC p k), rowI (aD bx4) 2 25 4 [(vI p.vars), (vI p.start), (.slice k.nb p.next.length k.nc), (.slice k.fb p.prio.length k.fc), (vI q.vars), (vI q.start), (.slice k2.nb q.next.length k2.nc), (.slice k2.fb q.prio.length k2.fc)], oI bx3 28 (lC nilLa kz), oI bx2 25 (pC q k2), oI bx1 25 (pC p k)] ∧ a % 2 ≠ c % 2 ∧ c ≤ 18 ∧ (∀ j9, j9 < c → a % 2 ≠ j9 % 2 → NoD p q a j9) ∧ Heads [(0, (pV p k)), (1, (pV q k2)), (2, (.pointer (aD bx1))), (3, (.pointer (aD bx2))), (4, (.pointer (aD bx3))), (5, .bool false), (8, (.pointer (aD bx6))), (9, vI (checkP q : Int)), (10, (.pointer (aD zT))), (11, (.pointer (aD zM))), (12, (.pointer (aD bx7))), (13, (.pointer (aD jb))), (42, vI ((a : Nat) : Int))] ρ) (fun c => 18 - c) (1 - a % 2) ?_ ?_
  ·exact ⟨bx8, kz, rfl, by omega, by omega, (fun j9 h9 e9 => absurd e9 (by omega)), (.of rfl)⟩
  rintro c ρ O ⟨jb, kz, rfl, hpar, hc18, hnj, hH⟩
  obtain ⟨ρ0, rfl⟩ := hH.elim
  clear hH
  refine T.s (T.s (T.rg (TO.q (q_lb 0 underlying3 rfl rfl rfl rfl) (TO.q (q_leq rfl rfl) (TO.nl (T.condP rfl (fun hc => ?_) (fun hc => ?_)))))))
  ·have hlt49 : c ≤ 16 := by omega
   refine T.skip (T.s (T.block (T.s (T.s (T.rg (TO.q (q_fa underlying25 rfl inf23 rfl rfl) (TO.q (q_lb 10 underlying23 rfl rfl rfl rfl) (TO.q (q_lb 1 underlying3 rfl rfl rfl rfl) ?_))))))))
   by_cases h55 : ((a : Nat) : Int) ∈ p.prio
   ·have hk55 := fun (w1 : World) (hI : Inv w [oI jb 3 [vI ((c : Nat) : Int)], oI bx7 3 [(vI ((a : Nat) : Int))], oI zT 25 (pC (pairP p q) k9), oI zM 3 [(vI (q.next.length : Int))], pI 23 3 (pairP p q) k9, oI bx6 25 (pC q k2), oI bx5 25 (pC p k), rowI (aD bx4) 2 25 4 [(vI p.vars), (vI p.start), (.slice k.nb p.next.length k.nc), (.slice k.fb p.prio.length k.fc), (vI q.vars), (vI q.start), (.slice k2.nb q.next.length k2.nc), (.slice k2.fb q.prio.length k2.fc)], oI bx3 28 (lC nilLa kz), oI bx2 25 (pC q k2), oI bx1 25 (pC p k)] w1) => (haveI := Inv.tab (P := Tryd.prog) hI; containsP w1 p k (hI.atQ h) hv a)
    refine TO.l rfl (l_call ent61 (CallT.op hk55) rfl ?_)
    clear hk55
    rintro vr O' ⟨N, rfl, rfl, rfl⟩
    rw [decide_eq_true h55]
    refine TO.q (q_not rfl) (TO.qm rfl (TO.gq rfl rfl (q_fa underlying25 rfl inf23 rfl rfl) (TO.gq rfl rfl (q_lb 9 underlying23 rfl rfl rfl rfl) (TO.gq rfl rfl (q_lb 0 underlying3 rfl rfl rfl rfl) ?_))))
    by_cases h61 : ((c : Nat) : Int) ∈ q.prio
    ·have hk61 := fun (w1 : World) (hI : Inv w [oI jb 3 [vI ((c : Nat) : Int)], oI bx7 3 [(vI ((a : Nat) : Int))], oI zT 25 (pC (pairP p q) k9), oI zM 3 [(vI (q.next.length : Int))], pI 23 3 (pairP p q) k9, oI bx6 25 (pC q k2), oI bx5 25 (pC p k), rowI (aD bx4) 2 25 4 [(vI p.vars), (vI p.start), (.slice k.nb p.next.length k.nc), (.slice k.fb p.prio.length k.fc), (vI q.vars), (vI q.start), (.slice k2.nb q.next.length k2.nc), (.slice k2.fb q.prio.length k2.fc)], oI bx3 28 (lC nilLa kz), oI bx2 25 (pC q k2), oI bx1 25 (pC p k)] w1) => (haveI := Inv.tab (P := Tryd.prog) hI; containsP w1 q k2 (hI.atQ h2) hq c)
     refine TO.gd rfl rfl rfl (l_call ent61 (CallT.op hk61) rfl ?_)
     clear hk61
     rintro vr O' ⟨N, rfl, rfl, rfl⟩
     rw [decide_eq_true h61]
     refine TO.gq rfl rfl (q_not rfl) (TO.q (q_pick0 rfl rfl) (TO.nl (T.cond0 rfl (T.skip (T.s (T.rg (TO.q (q_makeFunc) (TO.qa rfl (TO.nl (T.s (T.rg (TO.q (q_la 2 underlying25 rfl inf25 rfl rfl rfl) (TO.qm rfl (TO.q (q_makeFunc) (TO.q (q_makeFunc) ?_)))))))))))))))
     have hk70 := fun (w1 : World) (hI : Inv w [oI jb 3 [vI ((c : Nat) : Int)], oI bx7 3 [(vI ((a : Nat) : Int))], oI zT 25 (pC (pairP p q) k9), oI zM 3 [(vI (q.next.length : Int))], pI 23 3 (pairP p q) k9, oI bx6 25 (pC q k2), oI bx5 25 (pC p k), rowI (aD bx4) 2 25 4 [(vI p.vars), (vI p.start), (.slice k.nb p.next.length k.nc), (.slice k.fb p.prio.length k.fc), (vI q.vars), (vI q.start), (.slice k2.nb q.next.length k2.nc), (.slice k2.fb q.prio.length k2.fc)], oI bx3 28 (lC nilLa kz), oI bx2 25 (pC q k2), oI bx1 25 (pC p k)] w1) => (haveI := Inv.tab (P := Tryd.prog) hI; findC w1 (pairP p q) k9 (hI.atP (II := 23) (I := 3) (mG 4 rfl)) hGv (by omega) hGw [] (alD p q a c) (fun v : Nat => decide (f1 p q v = a)) (fun v : Nat => decide (f2 q v = c)) (.func (.func 62) #[] #[(.pointer (aD bx1)), (.pointer (aD zM)), (.pointer (aD bx7)), (.pointer (aD bx2)), (.pointer (aD jb))]) (.func (.func 64) #[] #[(.pointer (aD bx1)), (.pointer (aD zM)), (.pointer (aD bx7))]) (.func (.func 65) #[] #[(.pointer (aD bx2)), (.pointer (aD zM)), (.pointer (aD jb))]) rfl (fun u hu => CallV.rebase (B := [oI bx1 25 (pC p k), oI zM 3 [(vI (q.next.length : Int))], oI bx7 3 [(vI ((a : Nat) : Int))], oI bx2 25 (pC q k2), oI jb 3 [vI ((c : Nat) : Int)]]) (hI.subp (by exact Sub.pull [oI jb 3 [vI ((c : Nat) : Int)], oI bx7 3 [(vI ((a : Nat) : Int))], oI zT 25 (pC (pairP p q) k9), oI zM 3 [(vI (q.next.length : Int))], pI 23 3 (pairP p q) k9, oI bx6 25 (pC q k2), oI bx5 25 (pC p k), rowI (aD bx4) 2 25 4 [(vI p.vars), (vI p.start), (.slice k.nb p.next.length k.nc), (.slice k.fb p.prio.length k.fc), (vI q.vars), (vI q.start), (.slice k2.nb q.next.length k2.nc), (.slice k2.fb q.prio.length k2.fc)], oI bx3 28 (lC nilLa kz), oI bx2 25 (pC q k2)] _ (.pull [oI jb 3 [vI ((c : Nat) : Int)], oI bx7 3 [(vI ((a : Nat) : Int))], oI zT 25 (pC (pairP p q) k9)] _ (.pull [oI jb 3 [vI ((c : Nat) : Int)]] _ (.pull [oI jb 3 [vI ((c : Nat) : Int)], oI zT 25 (pC (pairP p q) k9), pI 23 3 (pairP p q) k9, oI bx6 25 (pC q k2), oI bx5 25 (pC p k), rowI (aD bx4) 2 25 4 [(vI p.vars), (vI p.start), (.slice k.nb p.next.length k.nc), (.slice k.fb p.prio.length k.fc), (vI q.vars), (vI q.start), (.slice k2.nb q.next.length k2.nc), (.slice k2.fb q.prio.length k2.fc)], oI bx3 28 (lC nilLa kz)] _ (.k .z)))))) (Exact.obj (Exact.obj (Exact.obj (Exact.obj (Exact.obj Exact.nil))))) (CallV.of_fn (first := []) (args := [vI ((u : Nat) : Int)]) (caps := [(.pointer (aD bx1)), (.pointer (aD zM)), (.pointer (aD bx7)), (.pointer (aD bx2)), (.pointer (aD jb))]) ent62 (bothF w p k h hv q k2 h2 hq bx1 zM bx7 bx2 jb a c u (by have h9 : u < (pairP p q).next.length := hu; rw [hpn] at h9; omega) (by have h9 : u < (pairP p q).next.length := hu; rw [hpn] at h9; exact h9)))) (fun u hu => CallV.rebase (B := [oI bx1 25 (pC p k), oI zM 3 [(vI (q.next.length : Int))], oI bx7 3 [(vI ((a : Nat) : Int))]]) (hI.subp (by exact Sub.d (.pull [oI bx7 3 [(vI ((a : Nat) : Int))], oI zT 25 (pC (pairP p q) k9), oI zM 3 [(vI (q.next.length : Int))], pI 23 3 (pairP p q) k9, oI bx6 25 (pC q k2), oI bx5 25 (pC p k), rowI (aD bx4) 2 25 4 [(vI p.vars), (vI p.start), (.slice k.nb p.next.length k.nc), (.slice k.fb p.prio.length k.fc), (vI q.vars), (vI q.start), (.slice k2.nb q.next.length k2.nc), (.slice k2.fb q.prio.length k2.fc)], oI bx3 28 (lC nilLa kz), oI bx2 25 (pC q k2)] _ (.pull [oI bx7 3 [(vI ((a : Nat) : Int))], oI zT 25 (pC (pairP p q) k9)] _ (.k .z))))) (Exact.obj (Exact.obj (Exact.obj Exact.nil))) (CallV.of_fn (first := []) (args := [vI ((u : Nat) : Int)]) (caps := [(.pointer (aD bx1)), (.pointer (aD zM)), (.pointer (aD bx7))]) ent64 (oneF w p k h hv q hq bx1 zM bx7 a u (by have h9 : u < (pairP p q).next.length := hu; rw [hpn] at h9; omega) (by have h9 : u < (pairP p q).next.length := hu; rw [hpn] at h9; exact h9)))) (fun u hu => CallV.rebase (B := [oI bx2 25 (pC q k2), oI zM 3 [(vI (q.next.length : Int))], oI jb 3 [vI ((c : Nat) : Int)]]) (hI.subp (by exact Sub.pull [oI jb 3 [vI ((c : Nat) : Int)], oI bx7 3 [(vI ((a : Nat) : Int))], oI zT 25 (pC (pairP p q) k9), oI zM 3 [(vI (q.next.length : Int))], pI 23 3 (pairP p q) k9, oI bx6 25 (pC q k2), oI bx5 25 (pC p k), rowI (aD bx4) 2 25 4 [(vI p.vars), (vI p.start), (.slice k.nb p.next.length k.nc), (.slice k.fb p.prio.length k.fc), (vI q.vars), (vI q.start), (.slice k2.nb q.next.length k2.nc), (.slice k2.fb q.prio.length k2.fc)], oI bx3 28 (lC nilLa kz)] _ (.pull [oI jb 3 [vI ((c : Nat) : Int)], oI bx7 3 [(vI ((a : Nat) : Int))], oI zT 25 (pC (pairP p q) k9)] _ (.k .z)))) (Exact.obj (Exact.obj (Exact.obj Exact.nil))) (CallV.of_fn (first := []) (args := [vI ((u : Nat) : Int)]) (caps := [(.pointer (aD bx2)), (.pointer (aD zM)), (.pointer (aD jb))]) ent65 (twoF w p hv q k2 h2 hq bx2 zM jb c u (by have h9 : u < (pairP p q).next.length := hu; rw [hpn] at h9; omega) (by have h9 : u < (pairP p q).next.length := hu; rw [hpn] at h9; exact h9)))))
     refine TO.l rfl (l_call ent63 (CallT.op hk70) rfl ?_)
     clear hk70
     rintro vr O' ⟨N, rfl, b9, l9, kl9, rfl, rfl, hf9⟩
     refine TO.qm rfl (TO.q (q_extract (vs := _) rfl rfl) (TO.q (q_extract (vs := _) rfl rfl) (TO.l rfl (l_sb (v := (lV l9 kl9)) (vs := (lC l9 kl9)) 9 inf28 rfl rfl rfl rfl rfl rfl (by simp [putL]) ?_))))
     refine TO.qa rfl (TO.nl (T.s (T.rg (TO.qm rfl (TO.nl (T.condP (p := b9 = true) (congrArg Value.bool (by cases b9 <;> rfl)) (fun hc => ?_) (fun hc => ?_)))))))
     ·have hfs := hf9.yes hc
      refine T.s (T.rg (TO.q (q_la 9 underlying28 rfl inf28 rfl rfl rfl) (TO.l rfl (l_sb (v := (lV l9 kl9)) (vs := (lC l9 kl9)) 9 inf28 rfl rfl rfl rfl rfl rfl (by simp [putL]) ?_))))
      refine TO.qa rfl (TO.qa rfl (TO.nl (T.ret (Res.drop ?_))))
      refine Res.cell1c (i := 9) (.bool true) (vI 0) Tryd.results29 underlying28 rfl inf28 rfl rfl rfl rfl rfl ?_
      exact ⟨[lI 5 l9 kl9], (by exact Sub.k .z), l9, kl9, true, 0, rfl, rfl, .inr (.inl ⟨hd0, rfl, rfl, a, c, hpar, by omega, by omega, hfs⟩)⟩
     have hb9 : b9 = false := Bool.eq_false_iff.2 hc
     have hnf := hf9.no hc
     refine T.skip (T.s (T.s (T.rg (TO.q (q_lb 1 underlying3 rfl rfl rfl rfl) (TO.nl (T.rg (TO.l rfl (l_alloc inf3 rfl (fun bx9 => ?_)))))))))
     refine TO.l rfl (l_sb (v := vI ((c : Nat) : Int)) (vs := [(vI ((c : Nat) : Int))]) 0 inf3 rfl rfl rfl rfl rfl rfl (by simp [putL]) ?_)
     refine TO.nl (T.rg (TO.q (q_lb 0 underlying3 rfl rfl rfl rfl) (TO.q (q_addN (a := c) (b := 2) rfl rfl (by omega)) (TO.l rfl (l_sb (v := vI ((c + 2 : Nat) : Int)) (vs := [(vI ((c + 2 : Nat) : Int))]) 0 inf3 rfl rfl rfl rfl rfl rfl (by simp [putL]) ?_)))))
     refine TO.nl ?_
     exact ⟨c + 2, by omega, [oI bx9 3 [(vI ((c + 2 : Nat) : Int))], oI bx7 3 [(vI ((a : Nat) : Int))], oI zT 25 (pC (pairP p q) k9), oI zM 3 [(vI (q.next.length : Int))], pI 23 3 (pairP p q) k9, oI bx6 25 (pC q k2), oI bx5 25 (pC p k), rowI (aD bx4) 2 25 4 [(vI p.vars), (vI p.start), (.slice k.nb p.next.length k.nc), (.slice k.fb p.prio.length k.fc), (vI q.vars), (vI q.start), (.slice k2.nb q.next.length k2.nc), (.slice k2.fb q.prio.length k2.fc)], oI bx3 28 (lC l9 kl9), oI bx2 25 (pC q k2), oI bx1 25 (pC p k)], (by exact Sub.k (.d (.d (.k (.k (.k (.k (.k (.k (.k (.k (.k (.k .z))))))))))))), bx9, kl9, by rw [hnf.1], by omega, by omega, (fun j9 h9 e9 => if hlt : j9 < c then hnj j9 hlt e9 else by obtain rfl : j9 = c := (by omega); exact (fun m1 m2 => by first | exact absurd m1 h55 | exact absurd m2 h61 | exact hnf.2)), ⟨rfl, rfl, rfl, rfl, rfl, (congrArg Value.bool hb9), rfl, rfl, rfl, rfl, rfl, rfl, rfl, trivial⟩⟩
    have hk61 := fun (w1 : World) (hI : Inv w [oI jb 3 [vI ((c : Nat) : Int)], oI bx7 3 [(vI ((a : Nat) : Int))], oI zT 25 (pC (pairP p q) k9), oI zM 3 [(vI (q.next.length : Int))], pI 23 3 (pairP p q) k9, oI bx6 25 (pC q k2), oI bx5 25 (pC p k), rowI (aD bx4) 2 25 4 [(vI p.vars), (vI p.start), (.slice k.nb p.next.length k.nc), (.slice k.fb p.prio.length k.fc), (vI q.vars), (vI q.start), (.slice k2.nb q.next.length k2.nc), (.slice k2.fb q.prio.length k2.fc)], oI bx3 28 (lC nilLa kz), oI bx2 25 (pC q k2), oI bx1 25 (pC p k)] w1) => (haveI := Inv.tab (P := Tryd.prog) hI; containsP w1 q k2 (hI.atQ h2) hq c)
    refine TO.gd rfl rfl rfl (l_call ent61 (CallT.op hk61) rfl ?_)
    clear hk61
    rintro vr O' ⟨N, rfl, rfl, rfl⟩
    rw [decide_eq_false h61]
    refine TO.gq rfl rfl (q_not rfl) (TO.q (q_pick0 rfl rfl) (TO.nl ?_))
    refine T.cond1 rfl ?_
    refine T.exit ?_
    refine T.s (T.s (T.rg (TO.q (q_lb 0 underlying3 rfl rfl rfl rfl) (TO.nl (T.rg (TO.l rfl (l_alloc inf3 rfl (fun bx10 => ?_))))))))
    refine TO.l rfl (l_sb (v := vI ((c : Nat) : Int)) (vs := [(vI ((c : Nat) : Int))]) 0 inf3 rfl rfl rfl rfl rfl rfl (by simp [putL]) ?_)
    refine TO.nl (T.rg (TO.q (q_lb 0 underlying3 rfl rfl rfl rfl) (TO.q (q_addN (a := c) (b := 2) rfl rfl (by omega)) (TO.l rfl (l_sb (v := vI ((c + 2 : Nat) : Int)) (vs := [(vI ((c + 2 : Nat) : Int))]) 0 inf3 rfl rfl rfl rfl rfl rfl (by simp [putL]) ?_)))))
    refine TO.nl ?_
    exact ⟨c + 2, by omega, [oI bx10 3 [(vI ((c + 2 : Nat) : Int))], oI bx7 3 [(vI ((a : Nat) : Int))], oI zT 25 (pC (pairP p q) k9), oI zM 3 [(vI (q.next.length : Int))], pI 23 3 (pairP p q) k9, oI bx6 25 (pC q k2), oI bx5 25 (pC p k), rowI (aD bx4) 2 25 4 [(vI p.vars), (vI p.start), (.slice k.nb p.next.length k.nc), (.slice k.fb p.prio.length k.fc), (vI q.vars), (vI q.start), (.slice k2.nb q.next.length k2.nc), (.slice k2.fb q.prio.length k2.fc)], oI bx3 28 (lC nilLa kz), oI bx2 25 (pC q k2), oI bx1 25 (pC p k)], (by exact Sub.k (.d (.k (.k (.k (.k (.k (.k (.k (.k (.k (.k .z)))))))))))), bx10, kz, rfl, by omega, by omega, (fun j9 h9 e9 => if hlt : j9 < c then hnj j9 hlt e9 else by obtain rfl : j9 = c := (by omega); exact (fun m1 m2 => by first | exact absurd m1 h55 | exact absurd m2 h61 | exact hnf.2)), (.of rfl)⟩
   have hk55 := fun (w1 : World) (hI : Inv w [oI jb 3 [vI ((c : Nat) : Int)], oI bx7 3 [(vI ((a : Nat) : Int))], oI zT 25 (pC (pairP p q) k9), oI zM 3 [(vI (q.next.length : Int))], pI 23 3 (pairP p q) k9, oI bx6 25 (pC q k2), oI bx5 25 (pC p k), rowI (aD bx4) 2 25 4 [(vI p.vars), (vI p.start), (.slice k.nb p.next.length k.nc), (.slice k.fb p.prio.length k.fc), (vI q.vars), (vI q.start), (.slice k2.nb q.next.length k2.nc), (.slice k2.fb q.prio.length k2.fc)], oI bx3 28 (lC nilLa kz), oI bx2 25 (pC q k2), oI bx1 25 (pC p k)] w1) => (haveI := Inv.tab (P := Tryd.prog) hI; containsP w1 p k (hI.atQ h) hv a)
   refine TO.l rfl (l_call ent61 (CallT.op hk55) rfl ?_)
   clear hk55
   rintro vr O' ⟨N, rfl, rfl, rfl⟩
   rw [decide_eq_false h55]
   refine TO.q (q_not rfl) (TO.qm rfl (TO.pd rfl rfl (TO.pd rfl rfl (TO.pd rfl rfl (TO.pd rfl rfl (TO.pd rfl rfl (TO.q (q_pick1 rfl rfl) (TO.nl ?_))))))))
   refine T.cond1 rfl ?_
   refine T.exit ?_
   refine T.s (T.s (T.rg (TO.q (q_lb 0 underlying3 rfl rfl rfl rfl) (TO.nl (T.rg (TO.l rfl (l_alloc inf3 rfl (fun bx11 => ?_))))))))
   refine TO.l rfl (l_sb (v := vI ((c : Nat) : Int)) (vs := [(vI ((c : Nat) : Int))]) 0 inf3 rfl rfl rfl rfl rfl rfl (by simp [putL]) ?_)
   refine TO.nl (T.rg (TO.q (q_lb 0 underlying3 rfl rfl rfl rfl) (TO.q (q_addN (a := c) (b := 2) rfl rfl (by omega)) (TO.l rfl (l_sb (v := vI ((c + 2 : Nat) : Int)) (vs := [(vI ((c + 2 : Nat) : Int))]) 0 inf3 rfl rfl rfl rfl rfl rfl (by simp [putL]) ?_)))))
   refine TO.nl ?_
   exact ⟨c + 2, by omega, [oI bx11 3 [(vI ((c + 2 : Nat) : Int))], oI bx7 3 [(vI ((a : Nat) : Int))], oI zT 25 (pC (pairP p q) k9), oI zM 3 [(vI (q.next.length : Int))], pI 23 3 (pairP p q) k9, oI bx6 25 (pC q k2), oI bx5 25 (pC p k), rowI (aD bx4) 2 25 4 [(vI p.vars), (vI p.start), (.slice k.nb p.next.length k.nc), (.slice k.fb p.prio.length k.fc), (vI q.vars), (vI q.start), (.slice k2.nb q.next.length k2.nc), (.slice k2.fb q.prio.length k2.fc)], oI bx3 28 (lC nilLa kz), oI bx2 25 (pC q k2), oI bx1 25 (pC p k)], (by exact Sub.k (.d (.k (.k (.k (.k (.k (.k (.k (.k (.k (.k .z)))))))))))), bx11, kz, rfl, by omega, by omega, (fun j9 h9 e9 => if hlt : j9 < c then hnj j9 hlt e9 else by obtain rfl : j9 = c := (by omega); exact (fun m1 m2 => by first | exact absurd m1 h55 | exact absurd m2 h61 | exact hnf.2)), (.of rfl)⟩
  have hge49 : ¬ c ≤ 16 := by omega
  refine T.exit ?_
  refine T.rg (TO.q (q_addN (a := a) (b := 1) rfl rfl (by omega)) (TO.qm rfl (TO.nl ?_)))
  exact ⟨a + 1, by omega, [oI zT 25 (pC (pairP p q) k9), oI zM 3 [(vI (q.next.length : Int))], pI 23 3 (pairP p q) k9, oI bx6 25 (pC q k2), oI bx5 25 (pC p k), rowI (aD bx4) 2 25 4 [(vI p.vars), (vI p.start), (.slice k.nb p.next.length k.nc), (.slice k.fb p.prio.length k.fc), (vI q.vars), (vI q.start), (.slice k2.nb q.next.length k2.nc), (.slice k2.fb q.prio.length k2.fc)], oI bx3 28 (lC nilLa kz), oI bx2 25 (pC q k2), oI bx1 25 (pC p k)], (by exact Sub.d (.d (.k (.k (.k (.k (.k (.k (.k (.k (.k .z))))))))))), kz, rfl, by omega, (fun i9 h9 j9 h8 e9 => if hlt : i9 < a then hnd i9 hlt j9 h8 e9 else by obtain rfl : i9 = a := (by omega); exact hnj j9 (by omega) e9), (.of rfl)⟩
 have hge43 : ¬ a < 17 := by omega
 refine T.exit ?_
 refine T.s ?_
 refine T.nilL 5 ?_
 refine T.rg (TO.q (q_build plan28 inf28 rfl) (TO.l rfl (l_sb (v := (.agg #[nS, nS])) (vs := [nS, nS]) 7 inf28 rfl rfl rfl rfl rfl rfl (by simp [putL]) ?_)))
 refine TO.qa rfl (TO.qa rfl (TO.nl (T.ret (Res.drop ?_))))
 refine Res.cell1c (i := 7) (.bool false) (vI 0) Tryd.results29 underlying28 rfl inf28 rfl rfl rfl rfl rfl ?_
 exact ⟨[lI 5 nilLa l00], (by exact Sub.k .z), nilLa, l00, false, 0, rfl, rfl, .inr (.inr ⟨hd0, rfl, rfl, rfl, noD_all (fun i9 h9 => hnd i9 (by omega))⟩)⟩
end Go.Proofs.YtnikhiohindggaaDoor


namespace Go.Lx
def Pp (E : Nat → Nat → Prop) (a b : Nat) : Prop := ∃ c, E a c ∧ Rch E c b
theorem Pp.one {E : Nat → Nat → Prop} {a b : Nat} (h : E a b) : Pp E a b := ⟨b, h, .refl _⟩
theorem Pp.rch {E : Nat → Nat → Prop} {a b : Nat} (h : Pp E a b) : Rch E a b := by obtain ⟨c, h1, h2⟩ := h; exact .step h1 h2
theorem Pp.trans {E : Nat → Nat → Prop} {a b c : Nat} (h : Pp E a b) (g : Pp E b c) : Pp E a c := by
 obtain ⟨d, h1, h2⟩ := h
 exact ⟨d, h1, h2.trans g.rch⟩
def wN (E : Nat → Nat → Prop) : Nat → Nat → Nat → Prop
 | 0, a, b => E a b
 | k + 1, a, b => wN E k a b ∨ (wN E k a k ∧ wN E k k b)
theorem wN_pp {E : Nat → Nat → Prop} : ∀ {k a b : Nat}, wN E k a b → Pp E a b
 | 0, _, _, h => .one h
 | k + 1, _, _, h => h.elim (fun h => wN_pp h) fun h => (wN_pp h.1).trans (wN_pp h.2)
theorem wN_join {E : Nat → Nat → Prop} : ∀ {k a b c : Nat}, b < k → wN E k a b → wN E k b c → wN E k a c
 | 0, _, _, _, h, _, _ => absurd h (Nat.not_lt_zero _)
 | k + 1, a, b, c, hb, h1, h2 => by
  by_cases e : b = k
  ·subst e
   have g1 : wN E b a b := h1.elim id fun h => h.1
   have g2 : wN E b b c := h2.elim id fun h => h.2
   exact .inr ⟨g1, g2⟩
  ·have hb2 : b < k := by omega
   rcases h1 with h1 | ⟨h1, h3⟩
   ·rcases h2 with h2 | ⟨h2, h4⟩
    ·exact .inl (wN_join hb2 h1 h2)
    ·exact .inr ⟨wN_join hb2 h1 h2, h4⟩
   ·rcases h2 with h2 | ⟨h2, h4⟩
    ·exact .inr ⟨h1, wN_join hb2 h3 h2⟩
    ·exact .inr ⟨h1, h4⟩
theorem wN_zero {E : Nat → Nat → Prop} {a b : Nat} (h : E a b) : ∀ k, wN E k a b
 | 0 => h
 | k + 1 => .inl (wN_zero h k)
theorem pp_wN {E : Nat → Nat → Prop} {n : Nat} (hE : ∀ u v, E u v → v < n) {a b : Nat} (h : Pp E a b) : wN E n a b := by
 obtain ⟨c, h1, h2⟩ := h
 induction h2 generalizing a with
 | refl => exact wN_zero h1 n
 | step e _ ih => exact wN_join (hE _ _ h1) (wN_zero h1 n) (ih e)
structure WarI (E : Nat → Nat → Prop) (n k i j : Nat) (g : Nat → Nat → Bool) : Prop where
 sound : ∀ a b, g a b = true → Pp E a b
 old : ∀ a b, a < n → b < n → wN E k a b → g a b = true
 new : ∀ a b, a < n → b < n → (a < i ∨ a = i ∧ b < j) → wN E (k + 1) a b → g a b = true
section
variable {E : Nat → Nat → Prop} {n k i j : Nat} {g g2 : Nat → Nat → Bool}
theorem WarI.start (h : ∀ a b, g a b = true → E a b) (h2 : ∀ a b, a < n → b < n → E a b → g a b = true) : WarI E n 0 0 0 g := ⟨fun a b e => .one (h a b e), h2, fun a b _ _ h => by omega⟩
theorem WarI.step (h : WarI E n k i j g) (hk : k < n) (hi : i < n) (hj : j < n) (hg : g i k = true) (h2 : ∀ a b, g2 a b = if a = i ∧ b = j then (g i j || g k j) else g a b) : WarI E n k i (j + 1) g2 := by
 have mono : ∀ a b, g a b = true → g2 a b = true := fun a b e => by
  rw [h2 a b]; split
  ·rename_i q; rw [← q.1, ← q.2, e]; rfl
  ·exact e
 refine ⟨fun a b e => ?_, fun a b ha hb hw => mono a b (h.old a b ha hb hw), fun a b ha hb hab hw => ?_⟩
 ·rw [h2 a b] at e
  by_cases q : a = i ∧ b = j
  ·rw [if_pos q, Bool.or_eq_true] at e
   obtain ⟨rfl, rfl⟩ := q
   rcases e with e | e
   ·exact h.sound _ _ e
   ·exact (h.sound _ _ hg).trans (h.sound _ _ e)
  ·rw [if_neg q] at e; exact h.sound a b e
 ·by_cases q : a = i ∧ b = j
  ·rw [h2 a b, if_pos q, Bool.or_eq_true]
   obtain ⟨rfl, rfl⟩ := q
   rcases hw with hw | ⟨_, hw⟩
   ·exact .inl (h.old _ _ ha hb hw)
   ·exact .inr (h.old _ _ hk hb hw)
  ·exact mono a b (h.new a b ha hb (by omega) hw)
theorem WarI.row (h : WarI E n k i j g) (hk : k < n) (he : n ≤ j ∨ g i k = false) : WarI E n k (i + 1) 0 g :=
 ⟨h.sound, h.old, fun a b ha hb hab hw => by
  by_cases q : a = i
  ·rcases he with he | he
   ·exact h.new a b ha hb (.inr ⟨q, by omega⟩) hw
   ·subst q
    rcases hw with hw | ⟨hw, _⟩
    ·exact h.old _ _ ha hb hw
    ·have := h.old a k ha hk hw; rw [he] at this; cases this
  ·exact h.new a b ha hb (by omega) hw⟩
theorem WarI.next (h : WarI E n k i 0 g) (hi : n ≤ i) : WarI E n (k + 1) 0 0 g := ⟨h.sound, fun a b ha hb hw => h.new a b ha hb (.inl (by omega)) hw, fun a b _ _ q => by omega⟩
theorem WarI.done (h : WarI E n k 0 0 g) (hk : k = n) (hE : ∀ u v, E u v → v < n) {a b : Nat} (ha : a < n) (hb : b < n) : g a b = true ↔ Pp E a b := by
 subst hk
 exact ⟨h.sound a b, fun e => h.old a b ha hb (pp_wN hE e)⟩
end
theorem cmp_pp {E : Nat → Nat → Prop} {S : Nat → Prop} {s t : Nat} (hs : S s) (hc : Cyc E S s) : Cmp E S s t ↔ Pp (InS E S) s t ∧ Pp (InS E S) t s := by
 constructor
 ·intro h
  have hl := Cmp.loop hs hc
  obtain ⟨c, h1, h2⟩ := hl.2 s t (.refl hs) h
  obtain ⟨d, h3, h4⟩ := hl.2 t s h (.refl hs)
  have up : ∀ u, Cmp E S s u → S u := fun u hu => hu.1
  exact ⟨⟨c, h1.mono up, rch_mono up h2⟩, ⟨d, h3.mono up, rch_mono up h4⟩⟩
 ·rintro ⟨h1, h2⟩
  have h4 := h2
  obtain ⟨c, h3, _⟩ := h4
  exact ⟨h3.2.1, h1.rch, h2.rch⟩
end Go.Lx


namespace Go.Lx
def EB (d : DFA) (u v : Nat) : Bool := decide (u < d.next.length) && (List.range (letN d)).any fun x => decide (toN d u x = v)
def wB (E : Nat → Nat → Bool) : Nat → Nat → Nat → Bool
 | 0, a, b => E a b
 | k + 1, a, b => wB E k a b || (wB E k a k && wB E k k b)
theorem wB_iff {E : Nat → Nat → Bool} : ∀ {k a b : Nat}, wB E k a b = true ↔ wN (fun u v => E u v = true) k a b
 | 0, _, _ => Iff.rfl
 | k + 1, a, b => by
  show (wB E k a b || (wB E k a k && wB E k k b)) = true ↔ _
  rw [Bool.or_eq_true, Bool.and_eq_true, wB_iff, wB_iff, wB_iff]; exact Iff.rfl
def inBE (E : Nat → Nat → Bool) (S : Nat → Bool) (u v : Nat) : Bool := E u v && (S u && S v)
def cmB (n : Nat) (E : Nat → Nat → Bool) (S : Nat → Bool) (v u : Nat) : Bool := wB (inBE E S) n v u && wB (inBE E S) n u v
def mxC (n : Nat) (f : Nat → Nat) (C : Nat → Bool) : Nat := mxP f ((List.range n).filter C)
def chkR (n : Nat) (E : Nat → Nat → Bool) (pr f : Nat → Nat) : Nat → (Nat → Bool) → Bool
 | 0, S => (List.range n).all fun v => !S v
 | t + 1, S => (List.range n).all fun v => !S v || (if wB (inBE E S) n v v = true then
   (chkR n E pr f t (fun u => cmB n E S v u && decide (pr u < mxC n pr (cmB n E S v))) && (decide (pr v ≠ mxC n pr (cmB n E S v)) || decide (f v = mxC n f (fun u => cmB n E S v u && decide (pr u < mxC n pr (cmB n E S v))) + (mxC n f (fun u => cmB n E S v u && decide (pr u < mxC n pr (cmB n E S v))) + mxC n pr (cmB n E S v)) % 2)))
   else decide (f v = 0))
theorem mxC_is {n : Nat} {f : Nat → Nat} {C : Nat → Bool} (h : ∀ u, C u = true → u < n) (hne : ∃ u, C u = true) : IsMax f (fun u => C u = true) (mxC n f C) := by
 have hl : (List.range n).filter C ≠ [] := fun e => by
  obtain ⟨u, hu⟩ := hne
  have : u ∈ (List.range n).filter C := List.mem_filter.2 ⟨List.mem_range.2 (h u hu), hu⟩
  rw [e] at this; cases this
 have e : (fun u => C u = true) = fun u => u ∈ (List.range n).filter C := funext fun u => propext ⟨fun hu => List.mem_filter.2 ⟨List.mem_range.2 (h u hu), hu⟩, fun hu => (List.mem_filter.1 hu).2⟩
 rw [e]; exact mxP_is hl
theorem mxC_max0 {n : Nat} {f : Nat → Nat} {C : Nat → Bool} (h : ∀ u, C u = true → u < n) : Max0 f (fun u => C u = true) (mxC n f C) := by
 by_cases hne : ∃ u, C u = true
 ·obtain ⟨⟨u, hu, e⟩, h2⟩ := mxC_is (f := f) h hne
  exact ⟨h2, .inr ⟨u, hu, e⟩⟩
 ·have hl : (List.range n).filter C = [] := List.filter_eq_nil_iff.2 fun u _ hu => hne ⟨u, hu⟩
  exact ⟨fun u hu => absurd ⟨u, hu⟩ hne, .inl (by unfold mxC; rw [hl]; rfl)⟩
theorem chkR_red {n : Nat} {E : Nat → Nat → Bool} {pr f : Nat → Nat} (hE : ∀ u v, E u v = true → v < n) : ∀ (t : Nat) (S : Nat → Bool), (∀ v, S v = true → v < n) → chkR n E pr f t S = true → IsRed (fun u v => E u v = true) pr f (fun v => S v = true)
 | 0, S, hS, h => by
  have hno : ∀ v, ¬ S v = true := fun v hv => by
   have := List.all_eq_true.1 h v (List.mem_range.2 (hS v hv))
   rw [hv] at this; cases this
  exact .mk (fun v hv => absurd hv (hno v)) (fun v hv => absurd hv (hno v)) (fun v hv => absurd hv (hno v))
 | t + 1, S, hS, h => by
  have hin : (fun u v => inBE E S u v = true) = InS (fun u v => E u v = true) (fun v => S v = true) := funext fun u => funext fun v => propext (by unfold inBE InS; simp [Bool.and_eq_true])
  have hpp : ∀ a b, wB (inBE E S) n a b = true ↔ Pp (InS (fun u v => E u v = true) fun v => S v = true) a b := fun a b => by
   rw [wB_iff, hin]
   exact ⟨wN_pp, pp_wN fun u v e => hS v e.2.2⟩
  have hcm : ∀ v, S v = true → Cyc (fun u v => E u v = true) (fun v => S v = true) v → Cmp (fun u v => E u v = true) (fun v => S v = true) v = fun u => cmB n E S v u = true := fun v hv hc => funext fun u => propext (by
   rw [cmp_pp hv hc]; unfold cmB; rw [Bool.and_eq_true, hpp, hpp])
  have at_ := fun v (hv : S v = true) => List.all_eq_true.1 h v (List.mem_range.2 (hS v hv))
  have hlt : ∀ v, S v = true → ∀ u, cmB n E S v u = true → u < n := fun v hv u hu => by
   unfold cmB at hu
   rw [Bool.and_eq_true] at hu
   obtain ⟨c, h1, h2⟩ := (hpp v u).1 hu.1
   obtain ⟨d, h3, _⟩ := (hpp u v).1 hu.2
   exact hS u h3.2.1
  have main : ∀ v, S v = true → Cyc (fun u v => E u v = true) (fun v => S v = true) v → ∀ m, IsMax pr (Cmp (fun u v => E u v = true) (fun v => S v = true) v) m → mxC n pr (cmB n E S v) = m ∧ chkR n E pr f t (fun u => cmB n E S v u && decide (pr u < m)) = true ∧ (pr v = m → f v = mxC n f (fun u => cmB n E S v u && decide (pr u < m)) + (mxC n f (fun u => cmB n E S v u && decide (pr u < m)) + m) % 2) := fun v hv hc m hm => by
   have h1 := at_ v hv
   have hvv : wB (inBE E S) n v v = true := (hpp v v).2 hc
   rw [if_pos hvv] at h1
   have hcmv := hcm v hv hc
   rw [hcmv] at hm
   have hself : cmB n E S v v = true := by unfold cmB; rw [hvv]; rfl
   have hmx := (mxC_is (f := pr) (hlt v hv) ⟨v, hself⟩).unique hm
   rw [hmx] at h1
   have hns : (!S v) = false := by rw [hv]; rfl
   rw [hns, Bool.false_or, Bool.and_eq_true, Bool.or_eq_true, decide_eq_true_eq, decide_eq_true_eq] at h1
   exact ⟨hmx, h1.1, fun e => h1.2.elim (fun g => absurd e g) id⟩
  have hR : ∀ v, S v = true → Cyc (fun u v => E u v = true) (fun v => S v = true) v → ∀ m, (fun u => Cmp (fun u v => E u v = true) (fun v => S v = true) v u ∧ pr u < m) = fun u => (cmB n E S v u && decide (pr u < m)) = true := fun v hv hc m => by
   rw [hcm v hv hc]
   exact funext fun u => propext (by rw [Bool.and_eq_true, decide_eq_true_eq])
  have hlt2 : ∀ v, S v = true → ∀ m u, (cmB n E S v u && decide (pr u < m)) = true → u < n := fun v hv m u hu => hlt v hv u (by rw [Bool.and_eq_true] at hu; exact hu.1)
  refine .mk (fun v hv hc => ?_) (fun v hv hc m hm => ?_) (fun v hv hc m k hm hpv hk => ?_)
  ·have h1 := at_ v hv
   rw [if_neg (fun g => hc ((hpp v v).1 g)), hv] at h1
   exact of_decide_eq_true h1
  ·obtain ⟨_, h2, _⟩ := main v hv hc m hm
   rw [hR v hv hc m]
   exact chkR_red hE t _ (hlt2 v hv m) h2
  ·obtain ⟨_, _, h3⟩ := main v hv hc m hm
   rw [hR v hv hc m] at hk
   obtain rfl := hk.unique (mxC_max0 (hlt2 v hv m))
   exact h3 hpv
theorem redOf_chk {p : Par} (hp : ValidP p) {f : Nat → Nat} (t : Nat) (h : chkR p.next.length (EB p.d) (prN p) f t (fun v => decide (v < p.next.length)) = true) : RedOf p f := by
 have e1 : (fun u v => EB p.d u v = true) = PEd p := funext fun u => funext fun v => propext (by
  unfold EB PEd
  rw [Bool.and_eq_true, decide_eq_true_eq, List.any_eq_true]
  refine and_congr Iff.rfl ⟨fun ⟨x, h1, h2⟩ => ⟨x, List.mem_range.1 h1, of_decide_eq_true h2⟩, fun ⟨x, h1, h2⟩ => ⟨x, List.mem_range.2 h1, decide_eq_true h2⟩⟩)
 have e2 : (fun v => decide (v < p.next.length) = true) = StS p := funext fun v => propext (by rw [decide_eq_true_eq]; exact Iff.rfl)
 have h1 := chkR_red (n := p.next.length) (E := EB p.d) (pr := prN p) (f := f) (fun u v e => by
  rw [show (EB p.d u v = true) = PEd p u v from congrFun (congrFun e1 u) v] at e
  exact e.lt hp) t _ (fun v hv => of_decide_eq_true hv) h
 rw [e1, e2] at h1
 exact ⟨h1⟩
def zerosP : Par := ⟨1, 0, [[0, 1], [0, 1]], [2, 3]⟩
def lz : La := ⟨[1, 1], [0]⟩
def lb : La := ⟨[], [0, 1]⟩
theorem zeros_ok : checkP zerosP = 0 := by decide +kernel
theorem zeros_v : ValidP zerosP := checkP_zero.1 zeros_ok
theorem inf_of {p : Par} {l : La} (h : 0 < l.loop.length) {s0 j m k : Nat} (hs : runN p.d p.d.start.toNat l.pre = s0) (hm : 0 < m) (he : orbN p.d l.loop s0 (j + m) = orbN p.d l.loop s0 j) (ht : topP p (orbN p.d l.loop s0 j) (repL l.loop m) = k) : infP p l.at = k := by
 subst hs; subst ht
 exact infP_eq (lasso_inf h rfl hm he)
theorem zeros_lz : infP zerosP lz.at = 2 := inf_of (s0 := 1) (j := 1) (m := 1) (by decide) (by decide +kernel) (by decide) (by decide +kernel) (by decide +kernel)
theorem zeros_lb : infP zerosP lb.at = 3 := inf_of (s0 := 0) (j := 1) (m := 1) (by decide) (by decide +kernel) (by decide) (by decide +kernel) (by decide +kernel)
def coZ : Par := ⟨1, 0, [[0, 1], [0, 1]], [3, 4]⟩
theorem zeros_co : coE zerosP = 0 ∧ coV zerosP = coZ := by
 have e : coE zerosP = 0 := by decide +kernel
 refine ⟨e, ?_⟩
 unfold coV
 rw [if_pos e]; rfl
theorem co_ok : checkP coZ = 0 := by decide +kernel
theorem co_v : ValidP coZ := checkP_zero.1 co_ok
theorem co_lz : infP coZ lz.at = 3 := inf_of (s0 := 1) (j := 1) (m := 1) (by decide) (by decide +kernel) (by decide) (by decide +kernel) (by decide +kernel)
theorem co_lb : infP coZ lb.at = 4 := inf_of (s0 := 0) (j := 1) (m := 1) (by decide) (by decide +kernel) (by decide) (by decide +kernel) (by decide +kernel)
theorem zeros_red : RedOf zerosP (fun s => s % 2) := redOf_chk zeros_v 3 (by decide +kernel)
theorem zeros_rd : (rdV zerosP).prio = [0, 1] := by rw [rdV_of zeros_ok zeros_red]; rfl
theorem lz_ok : LasOk zerosP lz := ⟨by decide, fun x hx => (show ∀ x ∈ lz.pre, x < letN zerosP.d by decide) x hx, fun x hx => (show ∀ x ∈ lz.loop, x < letN zerosP.d by decide) x hx⟩
theorem zeros_differ : differP zerosP coZ := diff_complete zeros_v co_v rfl (by decide) lz_ok (by rw [zeros_lz, co_lz]; decide)
def qZ : Par := ⟨1, 0, [[1, 1], [0, 0]], [1, 1]⟩
theorem qZ_ok : checkP qZ = 0 := by decide +kernel
theorem qZ_v : ValidP qZ := checkP_zero.1 qZ_ok
theorem qZ_bis : BisB qZ (fun _ _ => true) := fun s t hs ht => by
 refine ⟨fun _ => ?_, fun _ => rfl⟩
 refine bis_of (R := fun s t => s < qZ.next.length ∧ t < qZ.next.length) (fun s t h => ?_) (fun s t x h hx => ⟨(qZ_v.val.toN_lt h.1 hx).1, (qZ_v.val.toN_lt h.2 hx).1⟩) ⟨hs, ht⟩
 have h1 : ∀ s, s < 2 → prN qZ s = 1 := by decide +kernel
 rw [h1 s h.1, h1 t h.2]
theorem qZ_quo : quoV qZ = oneP 1 := by rw [quoV_of qZ_ok qZ_bis]; decide +kernel
end Go.Lx


namespace Go.Proofs.YtnikhiohindggaaDoor
open Go.Lx Go.RowKit _root_.Go.Proofs.Tryd
theorem zerosK (w : World) [Tab Tryd.prog w] : PureT Tryd.prog 38 [] w fun v N => ∃ k' : DK, v = pV zerosP k' ∧ N = [pI 23 3 zerosP k'] := by
 refine CallT.enter func38 rfl ntmps38 rfl ?_
 refine T.s (T.rg (TO.l rfl (l_alloc inf25 rfl (fun z1 => ?_))))
 refine TO.nl (T.s (T.rg (TO.l rfl (l_buildSlice (m := 2) (parts := [(0, .const (vI 0)), (1, .const (vI 1))]) (cs := [vI 0, vI 1]) uT23 inf3 (by decide) (by kernel_rfl) rfl (fun z2 => ?_)))))
 refine TO.l rfl (l_buildSlice (m := 2) (parts := [(0, .const (vI 0)), (1, .const (vI 1))]) (cs := [vI 0, vI 1]) uT23 inf3 (by decide) (by kernel_rfl) rfl (fun z3 => ?_))
 refine TO.l rfl (l_buildSlice (m := 2) (parts := [(0, .tmp 1), (1, .tmp 2)]) (cs := [(.slice (aD z2) 2 2), (.slice (aD z3) 2 2)]) uT22 inf23 (by decide) (by kernel_rfl) rfl (fun z4 => ?_))
 refine TO.l rfl (l_buildSlice (m := 2) (parts := [(0, .const (vI 2)), (1, .const (vI 3))]) (cs := [vI 2, vI 3]) uT23 inf3 (by decide) (by kernel_rfl) rfl (fun z5 => ?_))
 refine TO.q (q_build (cs := [vI 1, (vI 0), (.slice (aD z4) 2 2), (.slice (aD z5) 2 2)]) plan25 inf25 (by kernel_rfl)) (TO.l rfl (l_sb (v := (.agg #[vI 1, (vI 0), (.slice (aD z4) 2 2), (.slice (aD z5) 2 2)])) (vs := [vI 1, (vI 0), (.slice (aD z4) 2 2), (.slice (aD z5) 2 2)]) 4 inf25 rfl rfl rfl rfl rfl rfl (by simp [putL]) ?_))
 refine TO.nl ?_
 refine T.sub (O' := [rowI (aD z4) 2 23 1 [(.slice (aD z2) 2 2), (.slice (aD z3) 2 2)], rowI (aD z5) 2 3 1 [vI 2, vI 3], rowI (aD z2) 2 3 1 [vI 0, vI 1], rowI (aD z3) 2 3 1 [vI 0, vI 1], oI z1 25 [vI 1, (vI 0), (.slice (aD z4) 2 2), (.slice (aD z5) 2 2)]]) (Sub.pick [1, 0, 1, 0, 0] rfl) ?_
 obtain ⟨k0, hk0⟩ : ∃ k : DK, k = ⟨some ⟨z4, 0, none⟩, 2, some ⟨z5, 0, none⟩, 2, [⟨some ⟨z2, 0, none⟩, 2, [0, 1]⟩, ⟨some ⟨z3, 0, none⟩, 2, [0, 1]⟩]⟩ := ⟨_, rfl⟩
 refine T.sub (O' := (([rowI k0.nb k0.nc 23 1 (vals k0.qs), rowI k0.fb k0.fc 3 1 (ints zerosP.prio)] ++ itms 3 k0.qs) ++ [oI z1 25 [vI 1, (vI 0), (.slice (aD z4) 2 2), (.slice (aD z5) 2 2)]])) (by subst hk0; exact Sub.rf) ?_
 refine T.pack (φ := nums k0.qs = zerosP.next) (by subst hk0; rfl) ?_
 refine T.sub (O' := [pI 23 3 zerosP k0, oI z1 25 (pC zerosP k0)]) (by subst hk0; exact Sub.rf) ?_
 refine T.ret (Res.drop ?_)
 refine Res.cell1 (i := 1) Tryd.results38 uT25 rfl inf25 rfl rfl rfl ?_
 exact ⟨[pI 23 3 zerosP k0], (Sub.pick [0] rfl), k0, rfl, rfl⟩
theorem RowsR.two {w : World} {b1 b2 : Option Addr} {c1 c2 n1 n2 : Nat} {r1 r2 : List Int} (h1 : Sl w b1 (ints r1)) (h2 : Sl w b2 (ints r2)) (e1 : r1.length = n1) (e2 : r2.length = n2) : RowsR w [.slice b1 n1 c1, .slice b2 n2 c2] [r1, r2] := by
 subst e1; subst e2
 refine ⟨rfl, fun i r hr => ?_⟩
 match i with
 | 0 => simp at hr; subst hr; exact ⟨b1, c1, rfl, h1⟩
 | 1 => simp at hr; subst hr; exact ⟨b2, c2, rfl, h2⟩
 | i + 2 => simp at hr
theorem coZ_prio : coZ.prio = [3, 4] := rfl
theorem lz_e : ruE zerosP lz = 0 := by decide +kernel
theorem lb_e : ruE zerosP lb = 0 := by decide +kernel
theorem lb_e2 : ruE coZ lb = 0 := by decide +kernel
theorem aw_a : acB zerosP lz = true := decide_eq_true ⟨lz_e, by unfold ruV; rw [if_pos lz_e, zeros_lz]⟩
theorem aw_b : acB zerosP lb = false := decide_eq_false fun h => by
 have h2 := h.2
 unfold ruV at h2
 rw [if_pos lb_e, zeros_lb] at h2; exact absurd h2 (by decide)
theorem aw_n : ruV coZ lb = 4 := by unfold ruV; rw [if_pos lb_e2, co_lb]
theorem lz_B : LaB lz := ⟨by decide, by decide, by decide, by decide⟩
theorem lb_B : LaB lb := ⟨by decide, by decide, by decide, by decide⟩
theorem aw_d0 : diE zerosP coZ = 0 := diE_zero.2 ⟨zeros_v, co_v, rfl⟩
theorem aw_dif {l : La} {b : Bool} {e : Nat} (h : DiR zerosP coZ l b e) : b = true ∧ e = 0 ∧ 0 < l.loop.length := by
 rcases h with ⟨h, _⟩ | ⟨_, h1, h2, i, j, _, _, _, pre, loop, _, hc⟩ | ⟨_, _, _, _, h⟩
 ·exact absurd aw_d0 h
 ·exact ⟨h2, h1, hc.can.pos⟩
 ·exact absurd zeros_differ h
theorem awDif (w : World) [Tab Tryd.prog w] [Tab Tryd.prog w] (k : DK) (h : AtP w zerosP k) (k2 : DK) (h2 : AtP w coZ k2) :
  PureT Tryd.prog 29 [pV zerosP k, pV coZ k2] w fun v N => ∃ (l : La) (kl : LK), v = .tuple #[lV l kl, .bool true, vI 0] ∧ N = [lI 5 l kl] ∧ 0 < l.loop.length :=
 CallT.mono (parDif w zerosP k h coZ k2 h2 zeros_v.c co_v.c (fun _ => by decide)) fun v N ⟨l, kl, b, e, hv, hN, hd⟩ => by
  obtain ⟨rfl, rfl, h0⟩ := aw_dif hd
  exact ⟨l, kl, hv, hN, h0⟩
theorem awWit (w : World) [Tab Tryd.prog w] [Tab Tryd.prog w] (k : DK) (h : AtP w (oneP 1) k) :
  PureT Tryd.prog 30 [pV (oneP 1) k] w fun v N => ∃ (l : La) (kl : LK), v = .tuple #[lV l kl, vI 9] ∧ N = [lI 5 l kl] :=
 CallT.mono (parWit w (oneP 1) k h (oneP_valid (v := 1) (by decide) (by decide)).c) fun v N ⟨l, kl, e, hv, hN, hd⟩ => by
  have h1 : checkP (oneP 1) = 0 := checkP_zero.2 (oneP_valid (v := 1) (by decide) (by decide))
  rcases hd with ⟨h2, _⟩ | ⟨_, _, k9, h3, h4, h5⟩ | ⟨_, rfl, _⟩
  ·exact absurd h1 h2
  ·obtain ⟨pre, loop, hF, _⟩ := h5
   obtain ⟨v9, hv9, ho⟩ := hF.one
   have hV := oneP_valid (v := 1) (by decide) (by decide)
   have h6 := vis_lt hV loop _ (runN_lt hV.val hV.st pre hF.wp) hF.wl v9 hv9
   have e0 : (oneP 1).next.length = 1 := rfl
   have e : v9 = 0 := by omega
   subst e
   have h7 : prN (oneP 1) 0 = k9 := of_decide_eq_true ho
   have h8 : prN (oneP 1) 0 = 1 := rfl
   omega
  ·exact ⟨l, kl, hv, hN⟩
theorem awakeC (w : World) [Tab Tryd.prog w] : PureT Tryd.prog 12 [] w fun v N => v = .bool true ∧ N = [] := by
 refine CallT.enter func12 rfl ntmps12 rfl ?_
 obtain ⟨R, hR⟩ : ∃ m, rdV zerosP = m := ⟨_, rfl⟩
 have hRp : R.prio = [0, 1] := hR ▸ zeros_rd
 refine T.s (T.rg (TO.qa rfl (TO.nl (T.s (T.rg ?_)))))
 have hk21 := fun (w1 : World) (hI : Inv w [] w1) => (haveI := tbz hI; zerosK w1)
 refine TO.l rfl (l_call ent38 (CallT.op hk21) rfl ?_)
 clear hk21
 rintro vr O' ⟨N, rfl, k0, rfl, rfl⟩
 refine TO.l rfl (l_alloc inf25 rfl (fun z1 => ?_))
 refine TO.l rfl (l_sb (v := (pV zerosP k0)) (vs := (pC zerosP k0)) 0 inf25 rfl rfl rfl rfl rfl rfl (by simp [putL]) ?_)
 refine TO.nl (T.s (T.rg (TO.l rfl (l_buildSlice (m := 2) (parts := [(0, .const (.int .u8 1)), (1, .const (.int .u8 1))]) (cs := [.int .u8 1, .int .u8 1]) uT26 inf5 (by decide) (by kernel_rfl) rfl (fun z2 => ?_)))))
 refine TO.l rfl (l_build1 (v := .int .u8 0) uT26 inf5 rfl rfl rfl (fun z3 => ?_))
 refine TO.q (q_build (cs := [(.slice (aD z2) 2 2), (.slice (aD z3) 1 1)]) plan28 inf28 (by kernel_rfl)) (TO.l rfl (l_buildSlice (m := 2) (parts := [(0, .const (.int .u8 0)), (1, .const (.int .u8 1))]) (cs := [.int .u8 0, .int .u8 1]) uT26 inf5 (by decide) (by kernel_rfl) rfl (fun z4 => ?_)))
 refine TO.q (q_build (cs := [nS, (.slice (aD z4) 2 2)]) plan28 inf28 (by kernel_rfl)) (TO.l rfl (l_alloc inf28 rfl (fun z5 => ?_)))
 refine TO.l rfl (l_alloc inf28 rfl (fun z6 => ?_))
 refine TO.l rfl (l_sb (v := (.agg #[(.slice (aD z2) 2 2), (.slice (aD z3) 1 1)])) (vs := [(.slice (aD z2) 2 2), (.slice (aD z3) 1 1)]) 1 inf28 rfl rfl rfl rfl rfl rfl (by simp [putL]) ?_)
 refine TO.l rfl (l_sb (v := (.agg #[nS, (.slice (aD z4) 2 2)])) (vs := [nS, (.slice (aD z4) 2 2)]) 0 inf28 rfl rfl rfl rfl rfl rfl (by simp [putL]) ?_)
 refine TO.nl (T.nilRow 5 1 ?_)
 refine T.sub (O' := [rowI (aD z2) 2 5 1 [.int .u8 1, .int .u8 1], rowI (aD z3) 1 5 1 [.int .u8 0], rowI none 0 5 1 [], rowI (aD z4) 2 5 1 [.int .u8 0, .int .u8 1], oI z6 28 [nS, (.slice (aD z4) 2 2)], oI z5 28 [(.slice (aD z2) 2 2), (.slice (aD z3) 1 1)], oI z1 25 (pC zerosP k0), pI 23 3 zerosP k0]) (Sub.pick [5, 4, 0, 2, 0, 0, 0, 0] rfl) ?_
 obtain ⟨kz, hkz⟩ : ∃ k : LK, k = ⟨some ⟨z2, 0, none⟩, 2, some ⟨z3, 0, none⟩, 1⟩ := ⟨_, rfl⟩
 obtain ⟨kb, hkb⟩ : ∃ k : LK, k = ⟨none, 0, some ⟨z4, 0, none⟩, 2⟩ := ⟨_, rfl⟩
 refine T.sub (O' := ([rowI kz.pb kz.pc 5 1 (byts lz.pre), rowI kz.lb kz.lc 5 1 (byts lz.loop)] ++ ([rowI kb.pb kb.pc 5 1 (byts lb.pre), rowI kb.lb kb.lc 5 1 (byts lb.loop)] ++ [oI z6 28 (lC lb kb), oI z5 28 (lC lz kz), oI z1 25 (pC zerosP k0), pI 23 3 zerosP k0]))) (by subst hkz; subst hkb; exact Sub.rf) ?_
 refine T.pack (φ := True) trivial ?_
 refine T.sub (O' := ([rowI kb.pb kb.pc 5 1 (byts lb.pre), rowI kb.lb kb.lc 5 1 (byts lb.loop)] ++ (lI 5 lz kz :: [oI z6 28 (lC lb kb), oI z5 28 (lC lz kz), oI z1 25 (pC zerosP k0), pI 23 3 zerosP k0]))) (by exact Sub.pull [lI 5 lz kz] _ (Sub.pull [lI 5 lz kz] _ Sub.rf)) ?_
 refine T.pack (φ := True) trivial ?_
 refine T.sub (O' := [lI 5 lb kb, lI 5 lz kz, oI z6 28 (lC lb kb), oI z5 28 (lC lz kz), oI z1 25 (pC zerosP k0), pI 23 3 zerosP k0]) Sub.rf ?_
 refine T.reset [lI 5 lb kb, lI 5 lz kz, oI z6 28 (lC lb kb), oI z5 28 (lC lz kz), oI z1 25 (pC zerosP k0), pI 23 3 zerosP k0] [(0, .bool false), (1, (.pointer (aD z1))), (2, (.pointer (aD z5))), (3, (.pointer (aD z6)))] rfl ⟨rfl, rfl, rfl, rfl, trivial⟩ (fun ρ0 => ?_)
 refine T.s (T.rg (TO.q (q_la 4 uT25 rfl inf25 rfl rfl rfl) (TO.q (q_la 3 uT28 rfl inf28 rfl rfl rfl) ?_)))
 have hk30 := fun (w1 : World) (hI : Inv w [lI 5 lb kb, lI 5 lz kz, oI z6 28 (lC lb kb), oI z5 28 (lC lz kz), oI z1 25 (pC zerosP k0), pI 23 3 zerosP k0] w1) => (haveI := tbz hI; (show PureT _ _ _ _ _ from by
   have h9 := parAcc w1 zerosP k0 (hI.atP (II := 23) (I := 3) (mG 5 rfl)) zeros_v.c lz kz (hI.atL (U8 := 5) (mG 1 rfl)) lz_B
   rw [aw_a, lz_e] at h9
   exact h9))
 refine TO.l rfl (l_call ent17 (CallT.op hk30) rfl ?_)
 clear hk30
 rintro vr O' ⟨N, rfl, rfl, rfl⟩
 refine TO.qm rfl (TO.q (q_extract (vs := _) rfl rfl) (TO.q (q_extract (vs := _) rfl rfl) (TO.qa rfl (TO.qa rfl ?_))))
 refine TO.sub (O' := [oI z6 28 (lC lb kb), oI z5 28 (lC lz kz), oI z1 25 (pC zerosP k0), lI 5 lb kb, lI 5 lz kz, pI 23 3 zerosP k0]) (Sub.pick [2, 2, 2, 0, 0, 0] rfl) ?_
 refine TO.nl (T.s (T.rg (TO.q (q_la 2 uT25 rfl inf25 rfl rfl rfl) (TO.q (q_la 0 uT28 rfl inf28 rfl rfl rfl) ?_))))
 have hk36 := fun (w1 : World) (hI : Inv w [oI z6 28 (lC lb kb), oI z5 28 (lC lz kz), oI z1 25 (pC zerosP k0), lI 5 lb kb, lI 5 lz kz, pI 23 3 zerosP k0] w1) => (haveI := tbz hI; (show PureT _ _ _ _ _ from by
   have h9 := parAcc w1 zerosP k0 (hI.atP (II := 23) (I := 3) (mG 5 rfl)) zeros_v.c lb kb (hI.atL (U8 := 5) (mG 3 rfl)) lb_B
   rw [aw_b, lb_e] at h9
   exact h9))
 refine TO.l rfl (l_call ent17 (CallT.op hk36) rfl ?_)
 clear hk36
 rintro vr O' ⟨N, rfl, rfl, rfl⟩
 refine TO.qm rfl (TO.q (q_extract (vs := _) rfl rfl) (TO.q (q_extract (vs := _) rfl rfl) (TO.qa rfl (TO.qa rfl ?_))))
 refine TO.sub (O' := [oI z6 28 (lC lb kb), oI z5 28 (lC lz kz), oI z1 25 (pC zerosP k0), lI 5 lb kb, lI 5 lz kz, pI 23 3 zerosP k0]) (Sub.pick [0, 0, 0, 0, 0, 0] rfl) ?_
 refine TO.nl ?_
 refine T.reset [oI z6 28 (lC lb kb), oI z5 28 (lC lz kz), oI z1 25 (pC zerosP k0), lI 5 lb kb, lI 5 lz kz, pI 23 3 zerosP k0] [(0, .bool false), (1, (.pointer (aD z1))), (2, (.pointer (aD z5))), (3, (.pointer (aD z6))), (4, .bool true), (5, vI 0), (6, .bool false), (7, vI 0)] rfl (.of rfl) (fun ρ0 => ?_)
 refine T.s (T.rg (TO.q (q_la 2 uT25 rfl inf25 rfl rfl rfl) ?_))
 have hk41 := fun (w1 : World) (hI : Inv w [oI z6 28 (lC lb kb), oI z5 28 (lC lz kz), oI z1 25 (pC zerosP k0), lI 5 lb kb, lI 5 lz kz, pI 23 3 zerosP k0] w1) => (haveI := tbz hI; (show PureT _ _ _ _ _ from by
   have h9 := parRd w1 zerosP k0 (hI.atP (II := 23) (I := 3) (mG 5 rfl)) zeros_v.c
   rw [hR, zeros_ok] at h9
   exact h9))
 refine TO.l rfl (l_call ent25 (CallT.op hk41) rfl ?_)
 clear hk41
 rintro vr O' ⟨N, rfl, k1, rfl, rfl⟩
 refine TO.qm rfl (TO.q (q_extract (vs := _) rfl rfl) (TO.q (q_extract (vs := _) rfl rfl) (TO.l rfl (l_alloc inf25 rfl (fun z7 => ?_)))))
 refine TO.l rfl (l_sb (v := (pV R k1)) (vs := (pC R k1)) 0 inf25 rfl rfl rfl rfl rfl rfl (by simp [putL]) ?_)
 refine TO.qa rfl ?_
 refine TO.sub (O' := [oI z7 25 (pC R k1), oI z6 28 (lC lb kb), oI z5 28 (lC lz kz), oI z1 25 (pC zerosP k0), pI 23 3 R k1, lI 5 lb kb, lI 5 lz kz, pI 23 3 zerosP k0]) (Sub.pick [0, 1, 1, 1, 0, 0, 0, 0] rfl) ?_
 refine TO.nl (T.s (T.rg (TO.q (q_la 3 uT25 rfl inf25 rfl rfl rfl) ?_)))
 have hk46 := fun (w1 : World) (hI : Inv w [oI z7 25 (pC R k1), oI z6 28 (lC lb kb), oI z5 28 (lC lz kz), oI z1 25 (pC zerosP k0), pI 23 3 R k1, lI 5 lb kb, lI 5 lz kz, pI 23 3 zerosP k0] w1) => (haveI := tbz hI; (show PureT _ _ _ _ _ from by
   have h9 := parCo w1 zerosP k0 (hI.atP (II := 23) (I := 3) (mG 7 rfl)) zeros_v.c
   rw [zeros_co.1, zeros_co.2] at h9
   exact h9))
 refine TO.l rfl (l_call ent18 (CallT.op hk46) rfl ?_)
 clear hk46
 rintro vr O' ⟨N, rfl, k2, rfl, rfl⟩
 refine TO.qm rfl (TO.q (q_extract (vs := _) rfl rfl) (TO.q (q_extract (vs := _) rfl rfl) (TO.l rfl (l_alloc inf25 rfl (fun z8 => ?_)))))
 refine TO.l rfl (l_sb (v := (pV coZ k2)) (vs := (pC coZ k2)) 0 inf25 rfl rfl rfl rfl rfl rfl (by simp [putL]) ?_)
 refine TO.qa rfl ?_
 refine TO.sub (O' := [oI z8 25 (pC coZ k2), oI z7 25 (pC R k1), oI z6 28 (lC lb kb), oI z5 28 (lC lz kz), oI z1 25 (pC zerosP k0), pI 23 3 coZ k2, pI 23 3 R k1, lI 5 lb kb, lI 5 lz kz, pI 23 3 zerosP k0]) (Sub.pick [0, 1, 1, 1, 1, 0, 0, 0, 0, 0] rfl) ?_
 refine TO.nl ?_
 refine T.reset [oI z8 25 (pC coZ k2), oI z7 25 (pC R k1), oI z6 28 (lC lb kb), oI z5 28 (lC lz kz), oI z1 25 (pC zerosP k0), pI 23 3 coZ k2, pI 23 3 R k1, lI 5 lb kb, lI 5 lz kz, pI 23 3 zerosP k0] [(0, .bool false), (1, (.pointer (aD z1))), (2, (.pointer (aD z5))), (3, (.pointer (aD z6))), (4, .bool true), (5, vI 0), (6, .bool false), (7, vI 0), (8, (.pointer (aD z7))), (9, vI 0), (10, (.pointer (aD z8))), (11, vI 0)] rfl (.of rfl) (fun ρ0 => ?_)
 refine T.s (T.rg (TO.q (q_la 0 uT25 rfl inf25 rfl rfl rfl) (TO.q (q_la 2 uT28 rfl inf28 rfl rfl rfl) ?_)))
 have hk52 := fun (w1 : World) (hI : Inv w [oI z8 25 (pC coZ k2), oI z7 25 (pC R k1), oI z6 28 (lC lb kb), oI z5 28 (lC lz kz), oI z1 25 (pC zerosP k0), pI 23 3 coZ k2, pI 23 3 R k1, lI 5 lb kb, lI 5 lz kz, pI 23 3 zerosP k0] w1) => (haveI := tbz hI; (show PureT _ _ _ _ _ from by
   have h9 := parRun w1 coZ k2 (hI.atP (II := 23) (I := 3) (mG 5 rfl)) co_v.c lb kb (hI.atL (U8 := 5) (mG 7 rfl)) lb_B
   rw [aw_n, lb_e2] at h9
   exact h9))
 refine TO.l rfl (l_call ent15 (CallT.op hk52) rfl ?_)
 clear hk52
 rintro vr O' ⟨N, rfl, rfl, rfl⟩
 refine TO.qm rfl (TO.q (q_extract (vs := _) rfl rfl) (TO.q (q_extract (vs := _) rfl rfl) (TO.qa rfl (TO.qa rfl ?_))))
 refine TO.sub (O' := [oI z8 25 (pC coZ k2), oI z7 25 (pC R k1), oI z6 28 (lC lb kb), oI z5 28 (lC lz kz), oI z1 25 (pC zerosP k0), pI 23 3 coZ k2, pI 23 3 R k1, lI 5 lb kb, lI 5 lz kz, pI 23 3 zerosP k0]) (Sub.pick [0, 0, 0, 0, 0, 0, 0, 0, 0, 0] rfl) ?_
 refine TO.nl (T.s (T.rg (TO.q (q_la 4 uT25 rfl inf25 rfl rfl rfl) (TO.q (q_la 0 uT25 rfl inf25 rfl rfl rfl) ?_))))
 have hk58 := fun (w1 : World) (hI : Inv w [oI z8 25 (pC coZ k2), oI z7 25 (pC R k1), oI z6 28 (lC lb kb), oI z5 28 (lC lz kz), oI z1 25 (pC zerosP k0), pI 23 3 coZ k2, pI 23 3 R k1, lI 5 lb kb, lI 5 lz kz, pI 23 3 zerosP k0] w1) => (haveI := tbz hI; awDif w1 k0 (hI.atP (II := 23) (I := 3) (mG 9 rfl)) k2 (hI.atP (II := 23) (I := 3) (mG 5 rfl)))
 refine TO.l rfl (l_call ent29 (CallT.op hk58) rfl ?_)
 clear hk58
 rintro vr O' ⟨N, rfl, l9, kl9, rfl, rfl, hll⟩
 refine TO.qm rfl (TO.q (q_extract (vs := _) rfl rfl) (TO.q (q_extract (vs := _) rfl rfl) (TO.q (q_extract (vs := _) rfl rfl) (TO.l rfl (l_alloc inf28 rfl (fun z9 => ?_))))))
 refine TO.l rfl (l_sb (v := (lV l9 kl9)) (vs := (lC l9 kl9)) 0 inf28 rfl rfl rfl rfl rfl rfl (by simp [putL]) ?_)
 refine TO.qa rfl (TO.qa rfl ?_)
 refine TO.sub (O' := [oI z9 28 (lC l9 kl9), oI z8 25 (pC coZ k2), oI z7 25 (pC R k1), oI z6 28 (lC lb kb), oI z5 28 (lC lz kz), oI z1 25 (pC zerosP k0), lI 5 l9 kl9, pI 23 3 coZ k2, pI 23 3 R k1, lI 5 lb kb, lI 5 lz kz, pI 23 3 zerosP k0]) (Sub.pick [0, 1, 1, 1, 1, 1, 0, 0, 0, 0, 0, 0] rfl) ?_
 refine TO.nl ?_
 refine T.reset [oI z9 28 (lC l9 kl9), oI z8 25 (pC coZ k2), oI z7 25 (pC R k1), oI z6 28 (lC lb kb), oI z5 28 (lC lz kz), oI z1 25 (pC zerosP k0), lI 5 l9 kl9, pI 23 3 coZ k2, pI 23 3 R k1, lI 5 lb kb, lI 5 lz kz, pI 23 3 zerosP k0] [(0, .bool false), (1, (.pointer (aD z1))), (2, (.pointer (aD z5))), (3, (.pointer (aD z6))), (4, .bool true), (5, vI 0), (6, .bool false), (7, vI 0), (8, (.pointer (aD z7))), (9, vI 0), (10, (.pointer (aD z8))), (11, vI 0), (12, vI 4), (13, vI 0), (14, (.pointer (aD z9))), (15, .bool true), (16, vI 0)] rfl (.of rfl) (fun ρ0 => ?_)
 refine T.s (T.rg (TO.l rfl (l_buildSlice (m := 2) (parts := [(0, .const (vI 1)), (1, .const (vI 1))]) (cs := [vI 1, vI 1]) uT23 inf3 (by decide) (by kernel_rfl) rfl (fun z10 => ?_))))
 refine TO.l rfl (l_buildSlice (m := 2) (parts := [(0, .const (vI 0)), (1, .const (vI 0))]) (cs := [vI 0, vI 0]) uT23 inf3 (by decide) (by kernel_rfl) rfl (fun z11 => ?_))
 refine TO.l rfl (l_buildSlice (m := 2) (parts := [(0, .tmp 63), (1, .tmp 64)]) (cs := [(.slice (aD z10) 2 2), (.slice (aD z11) 2 2)]) uT22 inf23 (by decide) (by kernel_rfl) rfl (fun z12 => ?_))
 refine TO.l rfl (l_buildSlice (m := 2) (parts := [(0, .const (vI 1)), (1, .const (vI 1))]) (cs := [vI 1, vI 1]) uT23 inf3 (by decide) (by kernel_rfl) rfl (fun z13 => ?_))
 refine TO.q (q_build (cs := [vI 1, (vI 0), (.slice (aD z12) 2 2), (.slice (aD z13) 2 2)]) plan25 inf25 (by kernel_rfl)) ?_
 have hk68 := fun (w1 : World) (hI : Inv w [rowI (aD z13) 2 3 1 [vI 1, vI 1], rowI (aD z12) 2 23 1 [(.slice (aD z10) 2 2), (.slice (aD z11) 2 2)], rowI (aD z11) 2 3 1 [vI 0, vI 0], rowI (aD z10) 2 3 1 [vI 1, vI 1], oI z9 28 (lC l9 kl9), oI z8 25 (pC coZ k2), oI z7 25 (pC R k1), oI z6 28 (lC lb kb), oI z5 28 (lC lz kz), oI z1 25 (pC zerosP k0), lI 5 l9 kl9, pI 23 3 coZ k2, pI 23 3 R k1, lI 5 lb kb, lI 5 lz kz, pI 23 3 zerosP k0] w1) => (haveI := tbz hI; (show PureT _ _ _ _ _ from by
   have h9 := parQuo w1 qZ (⟨some ⟨z12, 0, none⟩, 2, some ⟨z13, 0, none⟩, 2, [⟨some ⟨z10, 0, none⟩, 2, [1, 1]⟩, ⟨some ⟨z11, 0, none⟩, 2, [0, 0]⟩]⟩) ⟨hI.slOf (mG 1 rfl), RowsR.two (hI.slOf (cs := ints [1, 1]) (mG 3 rfl)) (hI.slOf (cs := ints [0, 0]) (mG 2 rfl)) rfl rfl, (hI.slOf (cs := ints [1, 1]) (mG 0 rfl))⟩ qZ_v.c
   rw [qZ_quo, qZ_ok] at h9
   exact h9))
 refine TO.l rfl (l_call ent27 (CallT.op hk68) rfl ?_)
 clear hk68
 rintro vr O' ⟨N, rfl, k3, rfl, rfl⟩
 refine TO.qm rfl (TO.q (q_extract (vs := _) rfl rfl) (TO.q (q_extract (vs := _) rfl rfl) (TO.l rfl (l_alloc inf25 rfl (fun z14 => ?_)))))
 refine TO.l rfl (l_sb (v := (pV (oneP 1) k3)) (vs := (pC (oneP 1) k3)) 0 inf25 rfl rfl rfl rfl rfl rfl (by simp [putL]) ?_)
 refine TO.qa rfl ?_
 refine TO.sub (O' := [oI z14 25 (pC (oneP 1) k3), oI z9 28 (lC l9 kl9), oI z8 25 (pC coZ k2), oI z7 25 (pC R k1), oI z6 28 (lC lb kb), oI z5 28 (lC lz kz), oI z1 25 (pC zerosP k0), pI 23 3 (oneP 1) k3, lI 5 l9 kl9, pI 23 3 coZ k2, pI 23 3 R k1, lI 5 lb kb, lI 5 lz kz, pI 23 3 zerosP k0]) (Sub.pick [0, 5, 5, 5, 5, 5, 5, 0, 4, 4, 4, 4, 4, 4] rfl) ?_
 refine TO.nl ?_
 refine T.reset [oI z14 25 (pC (oneP 1) k3), oI z9 28 (lC l9 kl9), oI z8 25 (pC coZ k2), oI z7 25 (pC R k1), oI z6 28 (lC lb kb), oI z5 28 (lC lz kz), oI z1 25 (pC zerosP k0), pI 23 3 (oneP 1) k3, lI 5 l9 kl9, pI 23 3 coZ k2, pI 23 3 R k1, lI 5 lb kb, lI 5 lz kz, pI 23 3 zerosP k0] [(0, .bool false), (1, (.pointer (aD z1))), (2, (.pointer (aD z5))), (3, (.pointer (aD z6))), (4, .bool true), (5, vI 0), (6, .bool false), (7, vI 0), (8, (.pointer (aD z7))), (9, vI 0), (10, (.pointer (aD z8))), (11, vI 0), (12, vI 4), (13, vI 0), (14, (.pointer (aD z9))), (15, .bool true), (16, vI 0), (17, (.pointer (aD z14))), (18, vI 0)] rfl (.of rfl) (fun ρ0 => ?_)
 refine T.s (T.rg (TO.q (q_la 0 uT25 rfl inf25 rfl rfl rfl) ?_))
 have hk73 := fun (w1 : World) (hI : Inv w [oI z14 25 (pC (oneP 1) k3), oI z9 28 (lC l9 kl9), oI z8 25 (pC coZ k2), oI z7 25 (pC R k1), oI z6 28 (lC lb kb), oI z5 28 (lC lz kz), oI z1 25 (pC zerosP k0), pI 23 3 (oneP 1) k3, lI 5 l9 kl9, pI 23 3 coZ k2, pI 23 3 R k1, lI 5 lb kb, lI 5 lz kz, pI 23 3 zerosP k0] w1) => (haveI := tbz hI; awWit w1 k3 (hI.atP (II := 23) (I := 3) (mG 7 rfl)))
 refine TO.l rfl (l_call ent30 (CallT.op hk73) rfl ?_)
 clear hk73
 rintro vr O' ⟨N, rfl, l8, kl8, rfl, rfl⟩
 refine TO.qm rfl (TO.q (q_extract (vs := _) rfl rfl) (TO.q (q_extract (vs := _) rfl rfl) (TO.l rfl (l_alloc inf28 rfl (fun z15 => ?_)))))
 refine TO.l rfl (l_sb (v := (lV l8 kl8)) (vs := (lC l8 kl8)) 0 inf28 rfl rfl rfl rfl rfl rfl (by simp [putL]) ?_)
 refine TO.qa rfl ?_
 refine TO.sub (O' := [oI z15 28 (lC l8 kl8), oI z14 25 (pC (oneP 1) k3), oI z9 28 (lC l9 kl9), oI z8 25 (pC coZ k2), oI z7 25 (pC R k1), oI z6 28 (lC lb kb), oI z5 28 (lC lz kz), oI z1 25 (pC zerosP k0), lI 5 l8 kl8, pI 23 3 (oneP 1) k3, lI 5 l9 kl9, pI 23 3 coZ k2, pI 23 3 R k1, lI 5 lb kb, lI 5 lz kz, pI 23 3 zerosP k0]) (Sub.pick [0, 1, 1, 1, 1, 1, 1, 1, 0, 0, 0, 0, 0, 0, 0, 0] rfl) ?_
 refine TO.nl (T.s (T.rg (TO.qm rfl (TO.qm rfl (TO.gq rfl rfl (q_move rfl) (TO.gq rfl rfl (q_not rfl) (TO.q (q_pick1 rfl rfl) (TO.qm rfl (TO.gq rfl rfl (q_move rfl) (TO.gq rfl rfl (QT.toB (q_eql rfl rfl) (decide_eq_true (by first | rfl | decide | omega))) (TO.q (q_pick1 rfl rfl) (TO.qm rfl ?_))))))))))))
 refine TO.gq rfl rfl (q_move rfl) (TO.gq rfl rfl (QT.toB (q_eql rfl rfl) (decide_eq_true (by first | rfl | decide | omega))) (TO.q (q_pick1 rfl rfl) (TO.qm rfl (TO.gq rfl rfl (q_move rfl) (TO.gq rfl rfl (QT.toB (q_eql rfl rfl) (decide_eq_true (by first | rfl | decide | omega))) (TO.q (q_pick1 rfl rfl) (TO.qm rfl (TO.gq rfl rfl (q_fa uT25 rfl inf23 rfl rfl) (TO.gq rfl rfl (q_lb 4 uT23 rfl rfl rfl rfl) ?_)))))))))
 refine TO.gd rfl rfl rfl (l_buildSlice (m := 2) (parts := [(0, .const (vI 0)), (1, .const (vI 1))]) (cs := [vI 0, vI 1]) uT23 inf3 (by decide) (by kernel_rfl) rfl (fun z16 => ?_))
 have hk97 := fun (w1 : World) (hI : Inv w [rowI (aD z16) 2 3 1 [vI 0, vI 1], oI z15 28 (lC l8 kl8), oI z14 25 (pC (oneP 1) k3), oI z9 28 (lC l9 kl9), oI z8 25 (pC coZ k2), oI z7 25 (pC R k1), oI z6 28 (lC lb kb), oI z5 28 (lC lz kz), oI z1 25 (pC zerosP k0), lI 5 l8 kl8, pI 23 3 (oneP 1) k3, lI 5 l9 kl9, pI 23 3 coZ k2, pI 23 3 R k1, lI 5 lb kb, lI 5 lz kz, pI 23 3 zerosP k0] w1) => (haveI := tbz hI; (show PureT _ _ _ _ _ from by
   have h9 := equalInts w1 k1.fb (aD z16) k1.fc 2 R.prio [0, 1] (hI.atP (II := 23) (I := 3) (mG 13 rfl)).prio (hI.slOf (cs := ints [0, 1]) (mG 0 rfl)) (by rw [hRp]; decide)
   rw [decide_eq_true hRp] at h9
   exact h9))
 refine TO.gd rfl rfl rfl (l_call ent39 (CallT.op hk97) rfl ?_)
 clear hk97
 rintro vr O' ⟨N, rfl, rfl, rfl⟩
 refine TO.q (q_pick1 rfl rfl) (TO.qm rfl (TO.gq rfl rfl (q_move rfl) (TO.gq rfl rfl (QT.toB (q_eql rfl rfl) (decide_eq_true (by first | rfl | decide | omega))) (TO.q (q_pick1 rfl rfl) (TO.qm rfl (TO.gq rfl rfl (q_fa uT25 rfl inf23 rfl rfl) (TO.gq rfl rfl (q_lb 4 uT23 rfl rfl rfl rfl) ?_)))))))
 refine TO.gd rfl rfl rfl (l_buildSlice (m := 2) (parts := [(0, .const (vI 3)), (1, .const (vI 4))]) (cs := [vI 3, vI 4]) uT23 inf3 (by decide) (by kernel_rfl) rfl (fun z17 => ?_))
 have hk107 := fun (w1 : World) (hI : Inv w [rowI (aD z17) 2 3 1 [vI 3, vI 4], rowI (aD z16) 2 3 1 [vI 0, vI 1], oI z15 28 (lC l8 kl8), oI z14 25 (pC (oneP 1) k3), oI z9 28 (lC l9 kl9), oI z8 25 (pC coZ k2), oI z7 25 (pC R k1), oI z6 28 (lC lb kb), oI z5 28 (lC lz kz), oI z1 25 (pC zerosP k0), lI 5 l8 kl8, pI 23 3 (oneP 1) k3, lI 5 l9 kl9, pI 23 3 coZ k2, pI 23 3 R k1, lI 5 lb kb, lI 5 lz kz, pI 23 3 zerosP k0] w1) => (haveI := tbz hI; (show PureT _ _ _ _ _ from by
   have h9 := equalInts w1 k2.fb (aD z17) k2.fc 2 coZ.prio [3, 4] (hI.atP (II := 23) (I := 3) (mG 13 rfl)).prio (hI.slOf (cs := ints [3, 4]) (mG 0 rfl)) (by rw [coZ_prio]; decide)
   rw [decide_eq_true coZ_prio] at h9
   exact h9))
 refine TO.gd rfl rfl rfl (l_call ent39 (CallT.op hk107) rfl ?_)
 clear hk107
 rintro vr O' ⟨N, rfl, rfl, rfl⟩
 refine TO.q (q_pick1 rfl rfl) (TO.qm rfl (TO.gq rfl rfl (q_move rfl) (TO.gq rfl rfl (QT.toB (q_eql rfl rfl) (decide_eq_true (by first | rfl | decide | omega))) (TO.q (q_pick1 rfl rfl) (TO.qm rfl (TO.gq rfl rfl (q_move rfl) (TO.gq rfl rfl (QT.toB (q_eql rfl rfl) (decide_eq_true (by first | rfl | decide | omega))) (TO.q (q_pick1 rfl rfl) (TO.qm rfl (TO.gq rfl rfl (q_move rfl) ?_))))))))))
 refine TO.gq rfl rfl (QT.toB (q_eql rfl rfl) (decide_eq_true (by first | rfl | decide | omega))) (TO.q (q_pick1 rfl rfl) (TO.qm rfl (TO.gq rfl rfl (q_move rfl) (TO.q (q_pick1 rfl rfl) (TO.qm rfl (TO.gq rfl rfl (q_fa uT28 rfl inf26 rfl rfl) (TO.gq rfl rfl (q_lb 4 uT26 rfl rfl rfl rfl) (TO.gq rfl rfl (q_len uT26 rfl) (TO.gq rfl rfl (QT.toB (q_gtr rfl rfl) (decide_eq_true (by first | rfl | decide | omega))) ?_)))))))))
 refine TO.q (q_pick1 rfl rfl) (TO.qm rfl (TO.gq rfl rfl (q_move rfl) (TO.gq rfl rfl (QT.toB (q_eql rfl rfl) (decide_eq_true (by first | rfl | decide | omega))) (TO.q (q_pick1 rfl rfl) (TO.qm rfl (TO.gq rfl rfl (q_fa uT25 rfl inf22 rfl rfl) (TO.gq rfl rfl (q_lb 3 uT22 rfl rfl rfl rfl) (TO.gq rfl rfl (q_len uT22 rfl) (TO.gq rfl rfl (QT.toB (q_eql rfl rfl) (decide_eq_true (by first | rfl | decide | omega))) ?_)))))))))
 refine TO.q (q_pick1 rfl rfl) (TO.qm rfl (TO.gq rfl rfl (q_move rfl) (TO.gq rfl rfl (QT.toB (q_eql rfl rfl) (decide_eq_true (by first | rfl | decide | omega))) (TO.q (q_pick1 rfl rfl) (TO.qa rfl (TO.nl (T.ret (Res.drop ?_))))))))
 refine Res.one (.bool true) Tryd.results12 rfl ?_
 exact ⟨[], Sub.z, rfl, rfl⟩
end Go.Proofs.YtnikhiohindggaaDoor


namespace Go.Proofs.YtnikhiohindggaaDoor
open Go.Lx Go.RowKit _root_.Go.Proofs.Tryd
end Go.Proofs.YtnikhiohindggaaDoor


namespace Go.Lx
open Go.RowKit Go.ChangeShapes Go.WideShapes Go.Deep
section
variable {H : Type} {enc : TypeId × Value → H} {P : Program}
theorem TrodAll_stays (hl : laidOutB P = true) {W W' : World} {sp' : Nat → Bool} : ∀ {ts : List TypeId} {vs : List Value} {ds : List (DataW H)} {ps : List MemPlace},
  (∀ t ∈ ts, P.readableRec t = true ∧ t < P.types.size) → DataW.TrodAll enc P W 0 (fun _ => true) true ts vs ds ps → (∀ p ∈ ps, W.sameAt W' p) → (∀ p ∈ ps, sp' p.block = true) → DataW.TrodAll enc P W' 0 sp' true ts vs ds ps
 | [], _, _, _, _, h, _, _ => by
  obtain ⟨rfl, rfl, rfl⟩ := trodAll_nil h
  rfl
 | t :: ts, _, _, _, hr, h, hs, hsp => by
  obtain ⟨v, vs1, d, ds1, p, q, rfl, rfl, rfl, h1, h2⟩ := trodAll_cons h
  have ht := hr t (by simp)
  exact ⟨p, q, WideElems.Trod_stays hl ht.1 ht.2 h1 (fun x hx => hs x (List.mem_append_left _ hx)) (fun x hx => hsp x (List.mem_append_left _ hx)),
   TrodAll_stays hl (fun t ht => hr t (by simp [ht])) h2 (fun x hx => hs x (List.mem_append_right _ hx)) (fun x hx => hsp x (List.mem_append_right _ hx)), rfl⟩
theorem post_law {f : Func} {s : ChangeSpec} {W W' : World} {args : Array Value} {ds gs : List (DataW H)} {before : List MemPlace} {tb : TypeId}
  (hl : laidOutB P = true) (hr : ∀ t ∈ f.params.toList, P.readableRec t = true ∧ t < P.types.size) (hres : f.resultTypes = #[tb]) (hb : P.underlying tb = some .bool) (hv : s.vars = [])
  (hW : DataW.Whole enc P f.params.toList s.vars false W args.toList ds gs before)
  (h1 : (s.fn H ds).results = [.lit (.bool true)]) (h2 : (s.fn H ds).args = ds) (h3 : (s.fn H ds).vars = [])
  (hB : Below W.heap.size W W') : s.post enc P f false true false false W args (.bool true) W' := by
 have hW0 := hW
 obtain ⟨p, q, hA, hV, rfl, hz, hn⟩ := hW
 rw [hv] at hV
 obtain ⟨rfl, rfl⟩ := trodVars_none hV
 simp only [List.append_nil] at hW0 hz hn
 have hlt := hW0.lt
 have hsame : ∀ x ∈ p, W.sameAt W' x := fun x hx => hB.same (hlt x hx)
 have hargs : ∀ sp : Nat → Bool, (∀ x ∈ p, sp x.block = true) → DataW.TrodAll enc P W' 0 sp true f.params.toList args.toList (s.fn H (ds ++ [])).args p := fun sp hsp => by
  rw [List.append_nil, h2]
  exact TrodAll_stays hl hr hA hsame hsp
 have hvars : ∀ sp : Nat → Bool, DataW.TrodVars enc P W' sp s.vars (s.fn H (ds ++ [])).vars [] := fun sp => by
  rw [List.append_nil, hv, h3]; rfl
 have hresult : ∀ (b : Nat) (sp : Nat → Bool) (hd : Bool), DataW.TrodAll enc P W' b sp hd f.resultTypes.toList ((Value.bool true).resultList f.resultTypes.size) (s.fn H (ds ++ [])).results [] := fun b sp hd => by
  rw [List.append_nil, h1, hres]
  exact trodAll_cons_mk (shut_bool hb _) trodAll_mk0
 have hold : ∀ x ∈ p, (fun b => decide (b < W.heap.size)) x.block = true := fun x hx => by simpa using hlt x hx
 refine ⟨ds, [], p, [], p, [], hW0, hresult _ _ _, hargs _ hold, hvars _, World.keptBut_mono (fun x hx => ⟨hx, ?_⟩) (hB.frame _), fun _ => ?_⟩
 ·exact Or.inr (by simpa using hx)
 ·refine ⟨ok_one hres rfl (okWide_bool_mk hb _), _, _, ([] ++ p) ++ [], ⟨[] ++ p, [], trodAll_append (hargs _ (fun _ _ => rfl)) (hresult _ _ _), hvars _, rfl, ?_, ?_⟩, ?_⟩
  ·intro b off hx
   have hx' : MemPlace.cell b off ∈ p := by simpa using hx
   rw [hB.frozen (p := ⟨b, off, none⟩) (hlt _ hx')]
   exact hz b off hx'
  ·intro ha; cases ha
  ·intro x hx _
   simpa using hx
theorem spotNone {w : World} {a : Addr} {v : Value} (h : w.cell? a = some v) : a.spot = none := by
 unfold World.cell? at h
 cases e : a.spot with
 | none => rfl
 | some x => rw [e] at h; split at h <;> simp at h
theorem Sl.ofCells {w : World} {a : Addr} {cs : List Value} (h : ∀ i (hi : i < cs.length), w.cell? (a.add i) = some cs[i]) : Sl w (some a) cs := fun i hi => by
 have h0 := h 0 (by omega)
 have h1 := h i hi
 have h2 : a.spot = none := spotNone (a := a) (by simpa [Addr.add] using h0)
 refine ⟨a, rfl, h2, ?_⟩
 have e : a.add i = ⟨a.block, a.off + i, none⟩ := by
  unfold Addr.add
  split
  ·rename_i h; subst h
   cases a with
   | mk b o s => simp at h2; subst h2; rfl
  ·rfl
 rw [← e]; exact h1
theorem weights_all (e : TypeId) : ∀ {l : List (DataW H)} {d : DataW H}, d ∈ l → ∀ m ∈ d.weights P e, m ∈ DataW.weightsAll P e l
 | [], _, h, _, _ => by cases h
 | x :: l, d, h, m, hm => by
  rw [DataW.weightsAll, List.mem_append]
  rcases List.mem_cons.1 h with rfl | h
  ·exact .inl hm
  ·exact .inr (weights_all e h m hm)
theorem slice_bound {t e : TypeId} {elems spare : List (DataW H)} (ht : P.underlying t = some (.slice e)) (he : 0 < P.bytesOf e) (h : ∀ m ∈ (DataW.slice elems spare).weights P t, m ≤ reachBytes) :
  elems.length ≤ reachBytes ∧ ∀ d ∈ elems, ∀ m ∈ d.weights P e, m ≤ reachBytes := by
 have hw : (DataW.slice elems spare).weights P t = (elems.length + spare.length) * P.bytesOf e :: (DataW.weightsAll P e elems ++ DataW.weightsAll P e spare) := by
  rw [DataW.weights, ht]
 rw [hw] at h
 refine ⟨?_, fun d hd m hm => h m (List.mem_cons_of_mem _ (List.mem_append_left _ (weights_all e hd m hm)))⟩
 have h1 := h _ List.mem_cons_self
 have h2 := Nat.mul_le_mul_left (elems.length + spare.length) (show 1 ≤ P.bytesOf e from he)
 omega
theorem intsOf {w : World} {A : Option Addr} {L C : Nat} {Z : List Int} (hL : L ≤ C) (hZ : Z.length = C) (h0 : A = none → C = 0) (h : ∀ a', A = some a' → 0 ≤ a'.block ∧ ∀ c, c < C → w.cell? (a'.add c) = some (.int .i64 (Z.getD c 0))) :
  (Z.take L).length = L ∧ Sl w A (ints (Z.take L)) := by
 have hl : (Z.take L).length = L := by rw [List.length_take]; omega
 refine ⟨hl, ?_⟩
 cases A with
 | none =>
  have := h0 rfl
  have : Z.take L = [] := List.eq_nil_of_length_eq_zero (by omega)
  rw [this]; exact Sl.nil _ _
 | some a =>
  refine Sl.ofCells fun i hi => ?_
  have hi' : i < L := by rw [List.length_map, hl] at hi; exact hi
  have hiz : i < Z.length := by omega
  rw [(h a rfl).2 i (by omega), List.getElem_map, List.getElem_take]
  simp [hiz]
end
end Go.Lx


namespace Go.Lx
open Go.RowKit Go.ChangeShapes Go.WideShapes Go.Deep
section
variable {H : Type} {enc : TypeId × Value → H} {P : Program}
theorem open_nums {tr ti : TypeId} {W : World} {c : Value} {cs : List Value} {x : DataW H × List MemPlace} {fuel : Nat} (hrow : P.underlying tr = some (.slice ti)) (hi : P.underlying ti = some (.int .i64)) (ci : P.cellsOf ti = 1) (bi : 0 < P.bytesOf ti)
  (hcs : cs = [c]) (hw : ∀ m ∈ x.1.weights P tr, m ≤ reachBytes) (g : DataW.trod enc P W 0 (fun _ => true) true fuel tr cs = some x) :
  ∃ (b : Option Addr) (cp : Nat) (xs : List Int), c = .slice b xs.length cp ∧ xs.length ≤ reachBytes ∧ Sl W b (ints xs) := by
 subst hcs
 rcases open_ints hrow hi ci g with ⟨h, _⟩ | ⟨a, len, cap, zs, h, _, hl, _, hz, hx, hcell, _⟩
 ·exact ⟨none, 0, [], by simpa using h, Nat.zero_le _, Sl.nil _ _⟩
 ·simp only [if_true] at hz
  rw [congrArg Prod.fst hx] at hw
  have hb := (slice_bound hrow bi hw).1
  have hln : (zs.take len).length = len := by rw [List.length_take]; omega
  have hb' : len ≤ reachBytes := by
   have : (lits (H := H) .i64 (zs.take len)).length = len := by simp [lits]; omega
   omega
  refine ⟨some a, cap, zs.take len, by rw [hln]; simpa using h, by omega, ?_⟩
  have := intsOf (w := W) (A := some a) (L := len) (C := cap) (Z := zs) hl hz (fun h => by cases h) (fun a' h => by cases h; exact ⟨Nat.zero_le _, fun i hi => hcell i (by omega)⟩)
  exact this.2
theorem open_numrows {tn tr ti : TypeId} {W : World} {c2 : Value} {cs : List Value} {x : DataW H × List MemPlace} {fuel : Nat} (hn : P.underlying tn = some (.slice tr)) (hrow : P.underlying tr = some (.slice ti)) (hi : P.underlying ti = some (.int .i64)) (cr : P.cellsOf tr = 1) (ci : P.cellsOf ti = 1) (br : 0 < P.bytesOf tr) (bi : 0 < P.bytesOf ti)
  (hcs : cs = [c2]) (hw2 : ∀ m ∈ x.1.weights P tn, m ≤ reachBytes) (g2 : DataW.trod enc P W 0 (fun _ => true) true fuel tn cs = some x) :
  ∃ (nb : Option Addr) (nc : Nat) (rows : List (List Int)) (vs : List Value), c2 = .slice nb rows.length nc ∧ rows.length ≤ reachBytes ∧ (∀ r ∈ rows, r.length ≤ reachBytes) ∧ Sl W nb vs ∧ RowsR W vs rows := by
 subst hcs
 rcases open_int_rows hn hrow hi cr ci g2 with ⟨hcs2, _⟩ | ⟨a, len, cap, A, L, C, Z, hcs2, _, hlc, hcm, hx2, hall⟩
 ·exact ⟨none, 0, [], [], by simpa using hcs2, Nat.zero_le _, fun r hr => (List.not_mem_nil hr).elim, Sl.nil _ _, rfl, fun i r hr => by simp at hr⟩
 ·rw [congrArg Prod.fst hx2] at hw2
  obtain ⟨hwl, hwr⟩ := slice_bound hn br hw2
  have hwl' : len ≤ reachBytes := by simpa using hwl
  have hwrow : ∀ r, r < len → L r ≤ reachBytes := fun r hr => by
   obtain ⟨_, a2, _, a4, _, a6, _⟩ := hall r (by omega)
   have hm := hwr _ (List.mem_map.2 ⟨r, List.mem_range.2 hr, rfl⟩)
   cases hA : A r with
   | none => have := a6 hA; omega
   | some b =>
    rw [hA] at hm
    have := (slice_bound hrow bi hm).1
    simp [lits] at this
    omega
  have hrl : ∀ r, r < len → ((Z r).take (L r)).length = L r ∧ Sl W (A r) (ints ((Z r).take (L r))) := fun r hr => by
   obtain ⟨_, a2, a3, a4, _, a6, a7⟩ := hall r (by omega)
   exact intsOf a2 a4 a6 a7
  refine ⟨some a, cap, (List.range len).map fun r => (Z r).take (L r), (List.range len).map fun r => .slice (A r) (L r) (C r), by simpa using hcs2, by simp; omega, ?_, ?_, by simp, ?_⟩
  ·intro r hr
   obtain ⟨j, hj, rfl⟩ := List.mem_map.1 hr
   have hj' := List.mem_range.1 hj
   rw [(hrl j hj').1]; exact hwrow j hj'
  ·refine Sl.ofCells fun i hi9 => ?_
   have hi' : i < len := by simpa using hi9
   rw [(hall i (by omega)).1]; simp
  ·intro i r hr
   have hi' : i < len := by
    have := (List.getElem?_eq_some_iff.1 hr).1
    simpa using this
   have er : r = (Z i).take (L i) := by
    rw [List.getElem?_map, List.getElem?_range hi'] at hr
    exact (Option.some.inj hr).symm
   subst er
   refine ⟨A i, C i, ?_, (hrl i hi').2⟩
   rw [List.getElem?_map, List.getElem?_range hi', (hrl i hi').1]; rfl
structure ParIn (W : World) (v : Value) (p : Par) (k : DK) : Prop where
 val : v = pV p k
 at_ : AtP W p k
 c : ParC p
theorem open_par {t ti tn tr : TypeId} {f0 f1 f2 f3 : Field} {W : World} {v : Value} {d : DataW H} {p : List MemPlace}
  (ht : P.underlying t = some (.struct #[f0, f1, f2, f3])) (hc : P.cellsOf t = 4) (h0 : f0.type = ti) (h1 : f1.type = ti) (h2 : f2.type = tn) (h3 : f3.type = tr) (o0 : f0.offset = 0) (o1 : f1.offset = 1) (o2 : f2.offset = 2) (o3 : f3.offset = 3)
  (hi : P.underlying ti = some (.int .i64)) (hn : P.underlying tn = some (.slice tr)) (hrow : P.underlying tr = some (.slice ti))
  (ci : P.cellsOf ti = 1) (cn : P.cellsOf tn = 1) (cr : P.cellsOf tr = 1) (br : 0 < P.bytesOf tr) (bi : 0 < P.bytesOf ti) (hw : ∀ m ∈ d.weights P t, m ≤ reachBytes)
  (h : DataW.Trod enc P W 0 (fun _ => true) true t v d p) : ∃ q k, ParIn W v q k := by
 obtain ⟨fuel, hT⟩ := h
 obtain ⟨xs, n, rfl, hx, hlen, hxl, hfs⟩ := DataW.trod_struct ht hT
 rw [hc] at hlen
 obtain ⟨c0, c1, c2, c3, hcs⟩ : ∃ c0 c1 c2 c3, v.cells.toList = [c0, c1, c2, c3] := by
  match hh : v.cells.toList, hlen with
  | [a, b, c, e], _ => exact ⟨a, b, c, e, rfl⟩
 have hv : v = .agg #[c0, c1, c2, c3] := by
  have hsz : v.cells.size = 4 := by rw [← Array.length_toList, hcs]; rfl
  cases v with
  | agg cs =>
   have : cs.toList = [c0, c1, c2, c3] := hcs
   rw [← Array.toArray_toList (xs := cs), this]
  | _ => simp [Value.cells] at hsz
 rw [hcs] at hfs
 obtain ⟨x0, x1, x2, x3, rfl⟩ : ∃ a b c e, xs = [a, b, c, e] := by
  match xs, hxl with
  | [a, b, c, e], _ => exact ⟨a, b, c, e, rfl⟩
 have p0 := hfs 0 f0 rfl
 have p1 := hfs 1 f1 rfl
 have p2 := hfs 2 f2 rfl
 have p3 := hfs 3 f3 rfl
 rw [h0, o0, ci] at p0
 rw [h1, o1, ci] at p1
 rw [h2, o2, cn] at p2
 rw [h3, o3, cr] at p3
 have hd : d = .agg [x0.1, x1.1, x2.1, x3.1] := congrArg Prod.fst hx
 have hwe : d.weights P t = DataW.weightsEach P [ti, ti, tn, tr] [x0.1, x1.1, x2.1, x3.1] := by
  rw [hd, DataW.weights, ht]
  simp [h0, h1, h2, h3]
 rw [hwe] at hw
 have hw2 : ∀ m ∈ x2.1.weights P tn, m ≤ reachBytes := fun m hm => hw m (DataW.weights_mem_each (j := 2) rfl rfl m hm)
 have hw3 : ∀ m ∈ x3.1.weights P tr, m ≤ reachBytes := fun m hm => hw m (DataW.weights_mem_each (j := 3) rfl rfl m hm)
 obtain ⟨n0, e0, _, _⟩ := DataW.trod_int hi p0
 obtain ⟨n1, e1, _, _⟩ := DataW.trod_int hi p1
 have e0' : c0 = .int .i64 n0 := by simpa using e0
 have e1' : c1 = .int .i64 n1 := by simpa using e1
 subst e0' e1'
 obtain ⟨nb, nc, rows, vs, e2, l2, r2, s2, t2⟩ := open_numrows (c2 := c2) hn hrow hi cr ci br bi rfl hw2 p2
 obtain ⟨fb, fc, ps, e3, l3, s3⟩ := open_nums (c := c3) hrow hi ci bi rfl hw3 p3
 have hr : reachBytes < 1152921504606846976 := by decide
 obtain ⟨k, hk, ek⟩ := ParAt.dk (p := ⟨n0, n1, rows, ps⟩) nc fc ⟨s2, t2, s3⟩
 exact ⟨⟨n0, n1, rows, ps⟩, k, by rw [hv, e2, e3]; exact congrArg (fun c : List Value => Value.agg c.toArray) ek, hk, ⟨Nat.lt_of_le_of_lt l2 hr, fun r h9 => Nat.lt_of_le_of_lt (r2 r h9) hr, Nat.lt_of_le_of_lt l3 hr⟩⟩
end
end Go.Lx


namespace Go.Proofs.YtnikhiohindggaaDoor
open Go.ChangeShapes Go.WideShapes Go.ChangeAt Go.RowKit Go.Lx _root_.Go.Proofs.Tryd
set_option maxRecDepth 100000
theorem own : ownKnob Tryd.prog.godebug = none := by kernel_rfl
theorem laidOut : laidOutB Tryd.prog = true := by kernel_rfl
theorem reads_P : Tryd.prog.readableRec 25 = true := by kernel_rfl
theorem lt_P : 25 < Tryd.prog.types.size := of_decide_eq_true (by kernel_rfl)
theorem openP {H : Type} {enc : TypeId × Value → H} {W : World} {v : Value} {d : DataW H} {p : List MemPlace} (hw : ∀ m ∈ d.weights Tryd.prog 25, m ≤ reachBytes) (h : DataW.Trod enc Tryd.prog W 0 (fun _ => true) true 25 v d p) : ∃ q k, ParIn W v q k :=
 open_par underlying25 (by kernel_rfl) rfl rfl rfl rfl rfl rfl rfl rfl underlying3 underlying22 underlying23 (by kernel_rfl) (by kernel_rfl) (by kernel_rfl) (of_decide_eq_true (by kernel_rfl)) (of_decide_eq_true (by kernel_rfl)) hw h
def fillO (cs : Array Value) : Obj → Obj
 | .cells _ t frozen => .cells cs t frozen
 | o => o
noncomputable def laidWorld (os : Os) : World :=
 { World.holding Tryd.prog os ⟨#[], #[], []⟩ with heap := ((((World.holding Tryd.prog os ⟨#[], #[], []⟩).heap.modify 0 (fillO #[.int .u64 1, .int .u64 10, .int .u64 100, .int .u64 1000, .int .u64 10000, .int .u64 100000, .int .u64 1000000, .int .u64 10000000, .int .u64 100000000, .int .u64 1000000000, .int .u64 10000000000, .int .u64 100000000000, .int .u64 1000000000000, .int .u64 10000000000000, .int .u64 100000000000000, .int .u64 1000000000000000, .int .u64 10000000000000000, .int .u64 100000000000000000, .int .u64 1000000000000000000, .int .u64 10000000000000000000])).modify 1 (fillO #[.int .u8 0, .int .u8 1, .int .u8 28, .int .u8 2, .int .u8 29, .int .u8 14, .int .u8 24, .int .u8 3, .int .u8 30, .int .u8 22, .int .u8 20, .int .u8 15, .int .u8 25, .int .u8 17, .int .u8 4, .int .u8 8, .int .u8 31, .int .u8 27, .int .u8 13, .int .u8 23, .int .u8 21, .int .u8 19, .int .u8 16, .int .u8 7, .int .u8 26, .int .u8 12, .int .u8 18, .int .u8 6, .int .u8 11, .int .u8 5, .int .u8 10, .int .u8 9])).modify 2 (fillO #[.int .u8 0, .int .u8 1, .int .u8 56, .int .u8 2, .int .u8 57, .int .u8 49, .int .u8 28, .int .u8 3, .int .u8 61, .int .u8 58, .int .u8 42, .int .u8 50, .int .u8 38, .int .u8 29, .int .u8 17, .int .u8 4, .int .u8 62, .int .u8 47, .int .u8 59, .int .u8 36, .int .u8 45, .int .u8 43, .int .u8 51, .int .u8 22, .int .u8 53, .int .u8 39, .int .u8 33, .int .u8 30, .int .u8 24, .int .u8 18, .int .u8 12, .int .u8 5, .int .u8 63, .int .u8 55, .int .u8 48, .int .u8 27, .int .u8 60, .int .u8 41, .int .u8 37, .int .u8 16, .int .u8 46, .int .u8 35, .int .u8 44, .int .u8 21, .int .u8 52, .int .u8 32, .int .u8 23, .int .u8 11, .int .u8 54, .int .u8 26, .int .u8 40, .int .u8 15, .int .u8 34, .int .u8 20, .int .u8 31, .int .u8 10, .int .u8 25, .int .u8 14, .int .u8 19, .int .u8 9, .int .u8 13, .int .u8 8, .int .u8 7, .int .u8 6])) }
theorem tabOf {W : World} (hL : laidMetH Tryd.prog [("math/bits.deBruijn32tab", Rows.laid_math_bits_deBruijn32tab), ("math/bits.deBruijn64tab", Rows.laid_math_bits_deBruijn64tab), ("internal/strconv.uint64pow10", Rows.laid_internal_strconv_uint64pow10)] W) : Tab Tryd.prog W := by
 have h : laidMet Tryd.prog [("math/bits.deBruijn32tab", Rows.laid_math_bits_deBruijn32tab), ("math/bits.deBruijn64tab", Rows.laid_math_bits_deBruijn64tab), ("internal/strconv.uint64pow10", Rows.laid_internal_strconv_uint64pow10)] W := hL
 obtain ⟨ps, h, _⟩ := h
 have hz := h
 obtain ⟨_, h⟩ := laidVars_tail h
 obtain ⟨_, h⟩ := laidVars_tail h
 obtain ⟨_, hz⟩ := laidVars_tail hz
 exact Tab.of (tabIs_of_vars (g := 0) (t := 138) (e := 132) (n := 20) (by kernel_rfl) (by kernel_rfl) (by kernel_rfl) underlying138 underlying132 (by kernel_rfl) (by kernel_rfl) h) (.inr (tabIs_of_vars (g := 2) (t := 144) (e := 5) (n := 64) (by kernel_rfl) (by kernel_rfl) (by kernel_rfl) underlying144 underlying5 (by kernel_rfl) (by kernel_rfl) hz))
end Go.Proofs.YtnikhiohindggaaDoor


/- Contracts of functions of the program (CoreM, CoreN, CoreP, CoreQ, CoreR, CoreS, CoreU, CoreV, DK, CoreW, CoreY, CoreX, Plain, Part, Bfs, Tell, Law, Law2, Mat, Ord, Gre, All, DR, Myh, Rnd, Word, Wrd2, Bol, Dct, Can, Bol2, Bol3, Bol4, Bol5, Bol6, Bol7, Bol8, Ya, La, LaM, Yk, LaK, Yb, Ys): what each call answers and that it leaves memory as it was. Conditions: those each theorem names. -/
import Derived.Test.YtnikhiohindggaaDoorCoreL
set_option linter.unusedSectionVars false
set_option linter.unusedSimpArgs false
set_option linter.unusedVariables false
set_option linter.unnecessarySimpa false
set_option maxHeartbeats 8000000
set_option maxRecDepth 20000
namespace Go.Lx
open Go.RowKit
section
variable {P : Program} {r : Option Nat} {base : World} {n : Nat} {ρ : Env} {O : List Item} {K : Env → List Item → Prop} {d : Nat} {t : TypeId} {p : String} {af : Array Edge} {g : Option (Nat × Bool)}
theorem q_cap {x : Operand} {T : TypeId} {E : TypeId} {b : Option Addr} {m c : Nat} {dst : Option Nat} (hu : P.underlying T = some (.slice E)) (hx : ev ρ x = .slice b m c) :
  QT P base ⟨dst, .call ⟨.builtin .cap, #[x], #[T]⟩, t, p, af, g⟩ ρ O (.int .i64 (c : Int)) := fun w _ => by
 simp [execOp, resolve, hx, invoke, builtin, Builtin.cap_, run_underlying' hu, goInt]
theorem l_appendZ {T U E : TypeId} {m by_ : Nat} {x y : Operand} {z : Value} {k : IntKind} (hu : P.underlying T = some (.slice E)) (hxu : P.underlying U = some (.int .i64)) (hi : Inf P E z 1 by_) (hz : z.cells = #[z])
  (hx : ev ρ x = .slice none 0 0) (hy : ev ρ y = .int k (m : Int)) (hm : 0 < m) (hsz : m * by_ ≤ 70368744177664) (hby : by_ ≤ 1000000) (hsz' : 0 < by_)
  (h : ∀ b' c', m ≤ c' → K (upd ρ d (.slice b' m c')) (rowI b' c' E 1 (List.replicate m z) :: O)) (hn : Nat.blt d n = true := by rfl) :
  LT P r base n ⟨some d, .call ⟨.builtin .append, #[x, y], #[T, U]⟩, t, p, af, g⟩ ρ O K :=
 LT.of_run hn fun w M hI => by
  obtain ⟨i, hi1, hi2, hi3, hi4⟩ := hi.get
  obtain ⟨cap, hcap⟩ : ∃ cap, (Question.appendCap m 0 E).cut (w.tape w.drawn (Question.appendCap m 0 E)) = cap := ⟨_, rfl⟩
  have hle : m ≤ cap := hcap ▸ cut_cap m 0 _ E
  have hforced : (Question.appendCap m 0 E).forced = false := rfl
  have hI' : Inv base (O ++ M) w.drew := hI.drew
  have hmb : m ≤ 70368744177664 := Nat.le_trans (Nat.le_mul_of_pos_right m hsz') hsz
  have hw : IntKind.i64.wrap (m : Int) = (m : Int) := wrap64_id (by omega)
  have hnext : ¬ (281474976710656 < Builtin.nextslicecap m 0 * by_) := by
   have h1 := nextcap_le (need := m) (cap := 0) hm
   have h2 : Builtin.nextslicecap m 0 * by_ ≤ (2 * m + 192) * by_ := Nat.mul_le_mul_right _ h1
   have h3 : (2 * m + 192) * by_ = 2 * (m * by_) + 192 * by_ := by rw [Nat.add_mul, Nat.mul_assoc]
   omega
  have hbig : ¬ ((281474976710656 : Int) < (m : Int) * (by_ : Int)) := by
   have : ((m * by_ : Nat) : Int) = (m : Int) * (by_ : Int) := Int.natCast_mul _ _
   rw [← this]; omega
  have hm0 : ¬ m = 0 := by omega
  have hm1 : ¬ (m : Int) < 0 := by omega
  have hmax : ¬ ((9223372036854775807 : Int) < (m : Int)) := by omega
  have hmx : max (m : Int) 0 = (m : Int) := by omega
  have hle0 : ¬ (m : Int) ≤ 0 := by omega
  have hzc : Builtin.zeroCells z.cells m = (List.replicate m z).toArray := by
   unfold Builtin.zeroCells; rw [hz]
   have := zeros_one z m
   simpa using this
  have hzr : (m * z.cells.size) = m := by rw [hz]; simp
  refine ⟨.slice (some ⟨w.heap.size, 0, none⟩) m cap, w.drew.alloc (.cells ((List.replicate m z).toArray ++ Builtin.zeroCells z.cells (cap - m)) E), _, ?_, ?_, h (some ⟨w.heap.size, 0, none⟩) cap hle⟩
  ·simp [execOp, resolve, hx, hy, invoke, builtin, Builtin.append_, run_underlying' hu, run_underlying' hxu, run_sizeOf' hi, asInt, asIntOf, hw, hm1, hmx, hle0, hbig, run_typeInfo' hi1, hi4, hm0, hmax, hnext, hforced, hcap, Builtin.firstCells, run_zeroValue' hi, hzc, newRow]
  ·refine Inv.new (O := O ++ M) (N := [rowI (some ⟨w.heap.size, 0, none⟩) cap E 1 (List.replicate m z)]) hI rfl rfl rfl (by simp) (fun b hb => ?_) ?_ ?_ (by simp [rowI])
   ·show (w.heap.push _)[b]? = _
    rw [Array.getElem?_push, if_neg (by omega)]
   ·intro x hx
    simp at hx; subst hx
    refine ⟨rfl, (List.replicate m z).toArray ++ Builtin.zeroCells z.cells (cap - m), ?_, by simp; exact hle, ?_, fun q hq => ?_⟩
    ·show (w.heap.push _)[w.heap.size]? = _; simp
    ·simp only [Array.size_append, List.size_toArray, List.length_replicate, zeros_any, hz, Nat.zero_add]
     simp; omega
    ·simp only [List.length_replicate] at hq
     simp only [Nat.zero_add]
     rw [Array.getElem?_append_left (by simpa using hq)]
     simp [hq]
   ·intro x hx b hb
    simp at hx; subst hx
    simp [rowI] at hb; subst hb
    exact ⟨Nat.le_refl _, by simp⟩
end
theorem NextT.reorder {P : Program} {base : World} {M : List Item} {R : Value → List Item → Prop} {x : Result Next} (h : NextT P base M (fun v O' => ∃ O2, Sub O2 O' ∧ R v O2) x) : NextT P base M R x := by
 cases x with
 | halt e w => exact h
 | ok y w =>
  cases y with
  | enter f args => exact Calls.mono h (fun e w' ⟨v, O', h1, h2, O2, hs, hr⟩ => ⟨v, O2, h1, h2.subp hs.app, hr⟩)
  | round l f tmps assign body => exact RoundIn.mono h (fun e w' ⟨v, O', h1, h2, O2, hs, hr⟩ => ⟨v, O2, h1, h2.subp hs.app, hr⟩)
  | _ => exact h
theorem CallV.reorder {P : Program} {base : World} {fv : Value} {args : List Value} {O : List Item} {R : Value → List Item → Prop} (h : CallV P base fv args O (fun v O' => ∃ O2, Sub O2 O' ∧ R v O2)) : CallV P base fv args O R := fun w M hI => (h w M hI).reorder
theorem sub_swap {A B : List Item} : Sub (A ++ B) (B ++ A) := ⟨_, List.perm_append_comm, List.Sublist.refl _⟩
theorem CallV.atR {P : Program} {base : World} {fv : Value} {args : List Value} {A : List Item} (B : List Item) {R : Value → List Item → Prop} (h : CallV P base fv args A R) : CallV P base fv args (B ++ A) (fun v O' => ∃ A', O' = B ++ A' ∧ R v A') :=
 ((h.under (B := B) sub_swap).mono (fun v O' ⟨A', e, hr⟩ => ⟨B ++ A', by rw [e]; exact sub_swap, A', rfl, hr⟩)).reorder
theorem Inv.right {base : World} {A B : List Item} {w : World} (h : Inv base (A ++ B) w) : Inv base B w := h.sub (List.sublist_append_right _ _)
def WordsR (w : World) (vs : List Value) (ws : List (List Nat)) : Prop :=
 vs.length = ws.length ∧ ∀ (i : Nat) (r : List Nat), ws[i]? = some r → ∃ b c, vs[i]? = some (Value.slice b r.length c) ∧ Sl w b (byts r)
theorem WordsR.get {w : World} {vs : List Value} {ws : List (List Nat)} (h : WordsR w vs ws) {i : Nat} (hi : i < ws.length) : ∃ b c, vs[i]? = some (Value.slice b ws[i].length c) ∧ Sl w b (byts ws[i]) :=
 h.2 i _ (List.getElem?_eq_getElem hi)
theorem WordsR.keep {w w' : World} {vs : List Value} {ws : List (List Nat)} (h : WordsR w vs ws) (hb : ∀ k, k < w.heap.size → w'.heap[k]? = w.heap[k]?) : WordsR w' vs ws :=
 ⟨h.1, fun i r hr => by obtain ⟨b, c, h1, h2⟩ := h.2 i r hr; exact ⟨b, c, h1, h2.keep hb⟩⟩
theorem flat_take {ws : List (List Nat)} {k : Nat} (hk : k < ws.length) : (ws.take (k + 1)).flatten = (ws.take k).flatten ++ ws[k] := by
 rw [List.take_succ_eq_append_getElem hk, List.flatten_append]; simp
theorem flat_le {ws : List (List Nat)} (k : Nat) : (ws.take k).flatten.length ≤ ws.flatten.length := by
 conv => rhs; rw [← List.take_append_drop k ws, List.flatten_append]
 simp
theorem WordsR.two {w : World} {b1 b2 : Option Addr} {c1 c2 n1 n2 : Nat} {r1 r2 : List Nat} (h1 : Sl w b1 (byts r1)) (h2 : Sl w b2 (byts r2)) (e1 : r1.length = n1) (e2 : r2.length = n2) : WordsR w [.slice b1 n1 c1, .slice b2 n2 c2] [r1, r2] := by
 refine ⟨rfl, fun i r hr => ?_⟩
 match i with
 | 0 => simp at hr; subst hr; exact ⟨b1, c1, by rw [e1]; rfl, h1⟩
 | 1 => simp at hr; subst hr; exact ⟨b2, c2, by rw [e2]; rfl, h2⟩
 | i + 2 => simp at hr
theorem Sl.bsub {w : World} {b : Option Addr} {xs : List Nat} (h : Sl w b (byts xs)) {c lo hi : Nat} (hc : xs.length ≤ c) (hlo : lo < hi) (hhi : hi ≤ xs.length) : Sl w (subB b c lo 1) (byts ((xs.take hi).drop lo)) := by
 have h1 := h.sub c lo 1 (hi - lo) (fun e => by omega)
 rw [Nat.mul_one, ← List.map_drop, ← List.map_take] at h1
 rwa [List.drop_take]
theorem Sl.btake {w : World} {b : Option Addr} {xs : List Nat} (h : Sl w b (byts xs)) (m : Nat) : Sl w b (byts (xs.take m)) := fun i hi => by
 have hi' : i < xs.length := by rw [List.length_map, List.length_take] at hi; omega
 obtain ⟨a, h1, h2, h3⟩ := h i (by simpa using hi')
 exact ⟨a, h1, h2, by rw [h3]; simp⟩
end Go.Lx


namespace Go.Lx
open Go.RowKit
theorem CallV.pick {P : Program} {base : World} {fv : Value} {args : List Value} {x : Value} (is : List Nat) (L R A : List Item) (hA : pickL is L = A) (h : CallV P base fv args A (fun v O' => v = x ∧ O' = A)) : CallV P base fv args (L ++ R) (fun v O' => v = x ∧ O' = L ++ R) := by
 subst hA
 have hp : (pickL is L ++ (restL is L ++ R)).Perm (L ++ R) := by
  rw [← List.append_assoc]; exact (pick_perm is L).append_right R
 exact ((h.under (B := restL is L ++ R) (Sub.of_perm (D := []) (by simpa using hp))).mono (fun v O' ⟨A', e, hv, ha⟩ => ⟨L ++ R, by rw [e, ha]; exact Sub.of_perm (D := []) (by simpa using hp.symm), hv, rfl⟩)).reorder
theorem Src.own {P : Program} {base : World} {O : List Item} {b : Option Addr} {c k m : Nat} {cs : List Value} (h : ∀ w, Inv base O w → Sl w b cs) (hl : cs.length = m * k) : Src P base O k m (.slice b m c) cs :=
 ⟨hl, fun w => by simp [Builtin.lenOf], fun w hI => firstCells_run (h w hI) hl (fun e => by
  cases cs with
  | nil => rfl
  | cons v cs => obtain ⟨a, h1, _⟩ := h w hI 0 (by simp); rw [e] at h1; cases h1)⟩
section
variable {P : Program} {r : Option Nat} {base : World} {n : Nat} {ops : Array Oper} {S S2 : List Item} {tail tail2 : List Nat} {K : Env → List Item → Prop} {ρ : Env} {O : List Item}
theorem RO.loudG {fuel : Nat} {listed : Array Bool} (i : Nat) {o : Oper} {j0 tj : Nat} {want : Bool} (hi : ops[i]? = some o) (hg : o.guard = some (j0, want)) (hj0 : (ops[j0]?).bind (·.dst) = some tj) (hw : ρ tj = .bool want) (hr : Region.ready .any ops listed = [i])
  (h : LT P r base n o ρ O (fun ρ' O' => (i ∈ tail ∨ Sub S O') ∧ (i ∈ tail2 ∨ Sub S2 O') ∧ RO P r base n ops S tail S2 tail2 fuel (listed.setIfInBounds i true) K ρ' O')) : RO P r base n ops S tail S2 tail2 (fuel + 1) listed K ρ O := by
 intro Q a w M D hq hp ha hI hcl hS
 refine ⟨fun h0 => (by rw [hr] at h0; cases h0), fun j hj => ?_⟩
 rw [hr] at hj
 obtain rfl : j = i := by simpa using hj
 have hj' : j ∈ Region.ready .any ops listed := by rw [hr]; simp
 have hlt : j < listed.size := by
  have := (mem_ready.1 hj').1
  rcases Nat.lt_or_ge j listed.size with h' | h'
  ·exact h'
  ·simp [Array.getElem?_eq_none h'] at this
 have hy := yielded_eq (ops := ops) ha hj0
 rw [hw] at hy
 have hwant : Region.wanted o (yielded ops a.tmps) = true := by unfold Region.wanted; rw [hg]; simp [hy, yOf]
 unfold wpOpIn
 simp only [hi]
 rw [if_pos hwant]
 refine h a w _ _ ha hI _ _ fun a' ρ' O' w' h1 h2 h3 => ?_
 have hcase : ∀ (tl : List Nat) (Z : List Item), (j ∈ tl ∨ Sub Z O') → (tl.any fun b => (listed.setIfInBounds j true).getD b false) = true ∨ Inv base Z w' := fun tl Z h3 => by
  rcases h3 with h4 | h4
  ·refine .inl (List.any_eq_true.2 ⟨j, h4, ?_⟩)
   simp [hlt]
  ·exact .inr (h2.left.subp h4)
 have hcl' : classT base S tail S2 tail2 (listed.setIfInBounds j true) w' := ⟨h2.emp, hcase _ _ h3.1, hcase _ _ h3.2.1⟩
 exact ⟨hcl', h3.2.2 Q a' w' M D hq hp h1 h2 (closed_step hcl hj') hcl'⟩
theorem DO.loudG {l : List (Nat × Nat)} {i : Nat} {o : Oper} {j0 tj : Nat} {want : Bool} (hi : ops[i]? = some o) (hg : o.guard = some (j0, want)) (hj0 : (ops[j0]?).bind (·.dst) = some tj) (hw : ρ tj = .bool want)
  (h : LT P r base n o ρ O (fun ρ' O' => Sub S O' ∧ DO P r base n ops S tail [] tail2 l K ρ' O')) : DO P r base n ops S tail [] tail2 ((i, 1) :: l) K ρ O := fun hs hnd hl listed hb => by
 simp only [walkB, Bool.and_eq_true, beq_iff_eq] at hb
 refine RO.loudG i hi hg hj0 hw hb.1 ?_
 intro a w M ds ha hI next Qx hnext
 exact h a w M ds ha hI next Qx fun a' ρ' O' w' h1 h2 h3 => hnext a' ρ' O' w' h1 h2 ⟨.inr h3.1, .inr (Sub.of (List.nil_sublist _)), h3.2 hs hnd (fun q hq => hl q (List.mem_cons_of_mem _ hq)) _ hb.2⟩
theorem DO.lastG {l : List (Nat × Nat)} {i : Nat} {o : Oper} {j0 tj : Nat} {want : Bool} (hi : ops[i]? = some o) (hg : o.guard = some (j0, want)) (hj0 : (ops[j0]?).bind (·.dst) = some tj) (hw : ρ tj = .bool want)
  (h : LT P r base n o ρ O (fun ρ' O' => DO P r base n ops S tail S2 tail2 l K ρ' O')) : DO P r base n ops S tail S2 tail2 ((i, 2) :: l) K ρ O := fun hs hnd hl listed hb => by
 simp only [walkB, Bool.and_eq_true, beq_iff_eq] at hb
 refine RO.loudG i hi hg hj0 hw hb.1 ?_
 intro a w M ds ha hI next Qx hnext
 exact h a w M ds ha hI next Qx fun a' ρ' O' w' h1 h2 h3 => hnext a' ρ' O' w' h1 h2 ⟨.inl ((hl (i, 2) (by simp)).1.1 rfl), .inl ((hl (i, 2) (by simp)).2.1 (.inl rfl)), h3 hs hnd (fun q hq => hl q (List.mem_cons_of_mem _ hq)) _ hb.2⟩
end
end Go.Lx


namespace Go.Lx
open Go.RowKit
section
variable {P : Program} {r : Option Nat} {base : World} {n : Nat} {ops : Array Oper} {S S2 : List Item} {tail tail2 : List Nat} {K : Env → List Item → Prop} {ρ : Env} {O : List Item}
theorem RO.passedL {fuel : Nat} {listed : Array Bool} (i : Nat) {o : Oper} {d j0 tj : Nat} {want : Bool} (hi : ops[i]? = some o) (hg : o.guard = some (j0, want)) (hd : o.dst = some d) (hj0 : (ops[j0]?).bind (·.dst) = some tj) (hw : (yOf (ρ tj) == some want) = false) (hn : Nat.blt d n = true) (hr : Region.ready .any ops listed = [i])
  (h : RO P r base n ops S tail S2 tail2 fuel (listed.setIfInBounds i true) K (upd ρ d undef) O) : RO P r base n ops S tail S2 tail2 (fuel + 1) listed K ρ O := by
 intro Q a w M D hq hp ha hI hcl hS
 refine ⟨fun h0 => (by rw [hr] at h0; cases h0), fun j hj => ?_⟩
 rw [hr] at hj
 obtain rfl : j = i := by simpa using hj
 have hj' : j ∈ Region.ready .any ops listed := by rw [hr]; simp
 have hy := yielded_eq (ops := ops) ha hj0
 have hwant : Region.wanted o (yielded ops a.tmps) = false := by unfold Region.wanted; rw [hg]; simp only [hy]; exact hw
 unfold wpOpIn
 simp only [hi]
 rw [if_neg (by rw [hwant]; decide)]
 have hcl' : classT base S tail S2 tail2 (listed.setIfInBounds j true) w := ⟨hS.emp, hS.one.imp up_any id, hS.two.imp up_any id⟩
 refine ⟨fun _ _ => trivial, hcl', ?_⟩
 rw [hd]
 exact h Q _ w M D hq hp (ha.put hn undef) hI (closed_step hcl hj') hcl'
theorem DO.passedL {l : List (Nat × Nat)} {i mo : Nat} {o : Oper} {d j0 tj : Nat} {want : Bool} (hmo : mo = 1 ∨ mo = 2) (hi : ops[i]? = some o) (hg : o.guard = some (j0, want)) (hd : o.dst = some d) (hj0 : (ops[j0]?).bind (·.dst) = some tj) (hw : (yOf (ρ tj) == some want) = false)
  (h : DO P r base n ops S tail S2 tail2 l K (upd ρ d undef) O) (hn : Nat.blt d n = true := by rfl) : DO P r base n ops S tail S2 tail2 ((i, mo) :: l) K ρ O := fun hs hnd hl listed hb => by
 have hb' : (Region.ready .any ops listed == [i]) = true ∧ walkB ops tail tail2 l (listed.setIfInBounds i true) = true := by
  rcases hmo with rfl | rfl <;> simpa only [walkB, Bool.and_eq_true] using hb
 exact RO.passedL i hi hg hd hj0 hw hn (by simpa using hb'.1) (h hs hnd (fun q hq => hl q (List.mem_cons_of_mem _ hq)) _ hb'.2)
end
theorem Sub.k {A B : List Item} {a : Item} (h : Sub A B) : Sub (a :: A) (a :: B) := by
 obtain ⟨l, h1, h2⟩ := h; exact ⟨a :: l, h1.cons a, .cons_cons a h2⟩
theorem Sub.d {A B : List Item} {a : Item} (h : Sub A B) : Sub A (a :: B) := by
 obtain ⟨l, h1, h2⟩ := h; exact ⟨l, h1, .cons a h2⟩
theorem Sub.z {B : List Item} : Sub [] B := Sub.of (List.nil_sublist _)
theorem Sub.rf {B : List Item} : Sub B B := Sub.of (List.Sublist.refl _)
theorem sub_perm {l B : List Item} (h : l.Sublist B) : ∃ D, (l ++ D).Perm B := by
 induction h with
 | slnil => exact ⟨[], List.Perm.refl _⟩
 | cons a _ ih => obtain ⟨D, hD⟩ := ih; exact ⟨a :: D, List.perm_middle.trans (hD.cons a)⟩
 | cons_cons a _ ih => obtain ⟨D, hD⟩ := ih; exact ⟨D, hD.cons a⟩
theorem Sub.perm {A B : List Item} (h : Sub A B) : ∃ D, (A ++ D).Perm B := by
 obtain ⟨l, p, s⟩ := h
 obtain ⟨D, hD⟩ := sub_perm s
 exact ⟨D, (p.append_right D).trans hD⟩
theorem Sub.tr {A B C : List Item} (h1 : Sub A B) (h2 : Sub B C) : Sub A C := by
 obtain ⟨D, p⟩ := h1.perm
 obtain ⟨E, q⟩ := h2.perm
 exact Sub.of_perm (D := D ++ E) (by rw [← List.append_assoc]; exact (p.append_right E).trans q)
end Go.Lx


namespace Go.Lx
open Go.RowKit
theorem Sub.pull {xs : List Item} {x : Item} (P Q : List Item) (h : Sub xs (P ++ Q)) : Sub (x :: xs) (P ++ x :: Q) := by
 obtain ⟨D, p⟩ := h.perm
 refine Sub.of_perm (D := D) ?_
 exact (p.cons x).trans List.perm_middle.symm
example (a b c d e : Item) (R : List Item) : Sub ([c, a, e] ++ R) ([a, b, c, d, e] ++ R) := by exact Sub.pull [a, b] _ (.k (.d (.d (.k .rf))))
end Go.Lx


namespace Go.Lx
open Go.RowKit
end Go.Lx


namespace Go.Lx
open Go.RowKit
theorem q_nilCheck {P : Program} {base : World} {ρ : Env} {O : List Item} {dst : Option Nat} {t : TypeId} {p : String} {af : Array Edge} {g : Option (Nat × Bool)} {x : Operand} {a : Addr} (h : ev ρ x = .pointer (some a)) : QT P base ⟨dst, .nilCheck x, t, p, af, g⟩ ρ O (.pointer (some a)) := fun w _ => by simp [execOp, h]
end Go.Lx


namespace Go.Lx
open Go.RowKit
section
variable {P : Program} {base : World} {ρ : Env} {O : List Item} {dst : Option Nat} {t : TypeId} {p : String} {af : Array Edge} {g : Option (Nat × Bool)}
end
def Rnd (P : Program) (r : Option Nat) (base : World) (n : Nat) (c : Code) (Q : Post) : Nat → Env → List Item → Prop
 | 0, _, _ => False
 | m + 1, ρ, O => T P r base n c (thn (Rnd P r base n c Q m) Q) ρ O
theorem T.rounds {P : Program} {r : Option Nat} {base : World} {n : Nat} {c : Code} {Q : Post} {ρ : Env} {O : List Item} (m : Nat) (h : Rnd P r base n c Q m ρ O) : T P r base n (.loop c) Q ρ O :=
 T.loop (Rnd P r base n c Q) (fun m => m) m h fun s ρ O h => by
  cases s with
  | zero => exact h.elim
  | succ s => exact T.mono (show T P r base n c (thn (Rnd P r base n c Q s) Q) ρ O from h) (fun e ρ O h => by cases e <;> first | exact ⟨s, Nat.lt_succ_self s, h⟩ | exact h)
theorem T.round {P : Program} {r : Option Nat} {base : World} {n m : Nat} {c : Code} {Q : Post} {ρ : Env} {O : List Item} (h : T P r base n c (thn (Rnd P r base n c Q m) Q) ρ O) : Rnd P r base n c Q (m + 1) ρ O := h
end Go.Lx


namespace Go.Lx
open Go.RowKit
structure Mk (Wt : Type) where
 i : Nat
 d : Nat
 val : Wt → Value
 its : Wt → List Item
section
variable {P : Program} {r : Option Nat} {base : World} {n : Nat} {ρ : Env} {O S : List Item} {tail : List Nat} {ops : Array Oper} {K : Env → List Item → Prop} {Wt : Type}
theorem Sub.trans {A B C : List Item} (h : Sub A B) (h2 : Sub B C) : Sub A C := by
 obtain ⟨l1, p1, s1⟩ := h
 obtain ⟨l2, p2, s2⟩ := h2
 obtain ⟨l3, p3, s3⟩ := List.exists_perm_sublist s1 p2
 exact ⟨l3, p1.trans p3.symm, s3.trans s2⟩
theorem getD_lt {l : Array Bool} {j : Nat} (h : j < l.size) (a b : Bool) : l.getD j a = l.getD j b := by simp [h]
theorem Heads.append : ∀ {L M : List (Nat × Value)}, Heads L ρ → Heads M ρ → Heads (L ++ M) ρ
 | [], _, _, h => h
 | q :: L, M, h, h2 => ⟨h.1, Heads.append h.2 h2⟩
def left (listed : Array Bool) (mk : List (Mk Wt)) : Nat := (mk.filter fun q => !listed.getD q.i false).length
end
end Go.Lx


namespace Go.Lx
open Go.RowKit
def packI (φ : Prop) (L : List Item) : Item where
 blocks := L.flatMap Item.blocks
 P w := φ ∧ ∀ it ∈ L, it.P w
 loc w w' h := fun hp => ⟨hp.1, fun it hi => it.loc w w' (fun b hb => h b (List.mem_flatMap.2 ⟨it, hi, hb⟩)) (hp.2 it hi)⟩
theorem Inv.pack {base w : World} {φ : Prop} {L M : List Item} (hφ : φ) (h : Inv base (L ++ M) w) : Inv base (packI φ L :: M) w :=
 ⟨h.below, fun it hi => (List.mem_cons.1 hi).elim (fun e => e ▸ ⟨hφ, fun x hx => h.holds x (List.mem_append_left _ hx)⟩) fun hm => h.holds it (List.mem_append_right _ hm),
  fun it hi b hb => (List.mem_cons.1 hi).elim (fun e => by
   subst e
   obtain ⟨x, hx, hbx⟩ := List.mem_flatMap.1 hb
   exact h.fresh x (List.mem_append_left _ hx) b hbx) fun hm => h.fresh it (List.mem_append_right _ hm) b hb,
  by have := h.nodup; rwa [List.flatMap_append] at this⟩
section
variable {P : Program} {r : Option Nat} {base : World} {n : Nat} {c : Code} {Q : Post} {ρ : Env} {φ : Prop} {L M : List Item} {f : FuncId} {args : List Value}
theorem T.pack (hφ : φ) (h : T P r base n c Q ρ (packI φ L :: M)) : T P r base n c Q ρ (L ++ M) := fun a w N D hM ha hi =>
 h a w N D hM ha (by rw [List.append_assoc] at hi; exact Inv.pack hφ hi)
theorem CallT.packR {O : List Item} {R R' : Value → List Item → Prop} (h : CallT P base f args O R) (hr : ∀ v O', R v O' → ∃ φ L M, φ ∧ O' = L ++ M ∧ R' v (packI φ L :: M)) : CallT P base f args O R' := fun w N hI =>
 (h w N hI).mono fun _ _ ⟨v, O', h1, h2, h3⟩ => by
  obtain ⟨φ, L, M, hφ, rfl, hR⟩ := hr v O' h3
  exact ⟨v, packI φ L :: M, h1, Inv.pack (M := M ++ N) hφ (by rw [← List.append_assoc]; exact h2), hR⟩
end
structure DK where
 nb : Option Addr
 nc : Nat
 fb : Option Addr
 fc : Nat
 qs : List Rec
abbrev dC (d : DFA) (k : DK) : List Value := dfaCells d k.nb k.nc k.fb k.fc
abbrev dV (d : DFA) (k : DK) : Value := .agg (dC d k).toArray
abbrev At (w : World) (d : DFA) (k : DK) : Prop := DfaAt w d k.nb (vals k.qs) k.fb
def dI (II Bo I : TypeId) (d : DFA) (k : DK) : Item := packI (nums k.qs = d.next) ([rowI k.nb k.nc II 1 (vals k.qs), rowI k.fb k.fc Bo 1 (bools d.final)] ++ itms I k.qs)
theorem Inv.at {base w : World} {O : List Item} {II Bo I : TypeId} {d : DFA} {k : DK} (hI : Inv base O w) (h : dI II Bo I d k ∈ O) : At w d k := by
 have h0 := hI.holds _ h
 have g : ∀ it ∈ [rowI k.nb k.nc II 1 (vals k.qs), rowI k.fb k.fc Bo 1 (bools d.final)] ++ itms I k.qs, it.P w := h0.2
 refine ⟨rowP.sl (g (rowI k.nb k.nc II 1 (vals k.qs)) (by simp)), ?_, rowP.sl (g (rowI k.fb k.fc Bo 1 (bools d.final)) (by simp))⟩
 rw [← h0.1]
 refine ⟨by simp, fun i x hx => ?_⟩
 rw [List.getElem?_map] at hx
 obtain ⟨q, hq, rfl⟩ := Option.map_eq_some_iff.1 hx
 refine ⟨q.b, q.c, by rw [List.getElem?_map, hq]; rfl, ?_⟩
 have : (Rec.itm I q).P w := g _ (List.mem_append_right _ (List.mem_map_of_mem (List.mem_of_getElem? hq)))
 exact rowP.sl this
theorem rows_rec {w : World} : ∀ {vs : List Value} {rs : List (List Int)}, RowsR w vs rs → ∃ qs : List Rec, vals qs = vs ∧ nums qs = rs
 | [], [], _ => ⟨[], rfl, rfl⟩
 | [], _ :: _, h => absurd h.1 (by simp)
 | _ :: _, [], h => absurd h.1 (by simp)
 | v :: vs, x :: rs, h => by
  obtain ⟨b, c, h1, h2⟩ := h.get (i := 0) (by simp)
  obtain ⟨qs, e1, e2⟩ := rows_rec (vs := vs) (rs := rs) ⟨by simpa using h.1, fun i y hy => by simpa using h.2 (i + 1) y (by simpa using hy)⟩
  refine ⟨⟨b, c, x⟩ :: qs, ?_, by simp [e2]⟩
  simp only [List.map_cons, e1, Rec.val]
  simp at h1
  rw [h1]
theorem DfaAt.dk {w : World} {d : DFA} {nb : Option Addr} {vs : List Value} {fb : Option Addr} (nc fc : Nat) (h : DfaAt w d nb vs fb) : ∃ k : DK, At w d k ∧ dfaCells d nb nc fb fc = dC d k := by
 obtain ⟨qs, rfl, e⟩ := rows_rec h.rows
 exact ⟨⟨nb, nc, fb, fc, qs⟩, h, rfl⟩
theorem CallT.dk {P : Program} {base : World} {f : FuncId} {args : List Value} {O : List Item} {II Bo I : TypeId} {D : DFA} {g : Value → Value} (h : CallT P base f args O fun v N => ∃ nb' nc' fb' fc' qs, v = g (.agg (dfaCells D nb' nc' fb' fc').toArray) ∧ N = [rowI nb' nc' II 1 (vals qs), rowI fb' fc' Bo 1 (bools D.final)] ++ itms I qs ∧ nums qs = D.next) :
  CallT P base f args O fun v N => ∃ k : DK, v = g (dV D k) ∧ N = [dI II Bo I D k] :=
 h.packR fun v O' hR => by
  obtain ⟨nb, nc, fb, fc, qs, rfl, rfl, hq⟩ := hR
  exact ⟨nums qs = D.next, _, [], hq, (List.append_nil _).symm, ⟨nb, nc, fb, fc, qs⟩, rfl, rfl⟩
end Go.Lx


namespace Go.Lx
open Go.RowKit
section
variable {P : Program} {base : World} {ρ : Env} {O : List Item} {dst : Option Nat} {t : TypeId} {p : String} {af : Array Edge} {g : Option (Nat × Bool)}
end
structure WtM where
 n : Nat
 k : DK
 k2 : DK
 b : Option Addr
 c : Nat
def WtM.z : WtM := ⟨0, ⟨none, 0, none, 0, []⟩, ⟨none, 0, none, 0, []⟩, none, 0⟩
end Go.Lx


namespace Go.Lx
open Go.RowKit
theorem T.reset {P : Program} {r : Option Nat} {base : World} {n : Nat} {c : Code} {Q : Post} {ρ : Env} {O : List Item} (O' : List Item) (L : List (Nat × Value)) (e : O = O') (h : Heads L ρ) (k : ∀ ρ0, T P r base n c Q (heads L ρ0) O') : T P r base n c Q ρ O := by
 obtain ⟨ρ0, rfl⟩ := h.elim
 subst e
 exact k ρ0
theorem Rnd.reset {P : Program} {r : Option Nat} {base : World} {n m : Nat} {c : Code} {Q : Post} {ρ : Env} {O : List Item} (O' : List Item) (L : List (Nat × Value)) (e : O = O') (h : Heads L ρ) (k : ∀ ρ0, Rnd P r base n c Q m (heads L ρ0) O') : Rnd P r base n c Q m ρ O := by
 obtain ⟨ρ0, rfl⟩ := h.elim
 subst e
 exact k ρ0
section
variable {P : Program} {base : World} {ρ : Env} {O : List Item} {dst : Option Nat} {t : TypeId} {p : String} {af : Array Edge} {g : Option (Nat × Bool)}
end
theorem sublist_rest {l O : List Item} (h : l.Sublist O) : ∃ D, O.Perm (l ++ D) := by
 induction h with
 | slnil => exact ⟨[], List.Perm.refl _⟩
 | cons a _ ih =>
  obtain ⟨D, hD⟩ := ih
  exact ⟨a :: D, (List.Perm.cons a hD).trans List.perm_middle.symm⟩
 | cons_cons a _ ih =>
  obtain ⟨D, hD⟩ := ih
  exact ⟨D, List.Perm.cons a hD⟩
theorem Sub.rest {S O : List Item} (h : Sub S O) : ∃ D, O.Perm (S ++ D) := by
 obtain ⟨l, hp, hs⟩ := h
 obtain ⟨D, hD⟩ := sublist_rest hs
 exact ⟨D, hD.trans (hp.symm.append_right D)⟩
end Go.Lx


namespace Go.Lx
open Go.RowKit
theorem emask_of {e : Edge} (hb : Region.binds .any e = true) : ∀ {l : List Edge}, e ∈ l → (emask l).testBit e.on = true
 | a :: l, h => by
  rw [emask, Nat.testBit_or, Bool.or_eq_true]
  rcases List.mem_cons.1 h with rfl | h
  ·exact .inl (by rw [if_pos hb, Nat.one_shiftLeft, Nat.testBit_two_pow]; simp)
  ·exact .inr (emask_of hb h)
def rdyM (ops : Array Oper) (d j : Nat) : Bool := !d.testBit j && Nat.beq (omaskAt ops j &&& d) (omaskAt ops j)
def freeM (ops : Array Oper) (d i : Nat) : Bool := match ops[i]? with
 | none => false
 | some oi => (List.range ops.size).all fun j => Nat.beq j i || d.testBit j || (omaskAt ops j).testBit i || match ops[j]? with
  | some oj => oi.apart ops oj
  | none => true
def walkF (ops : Array Oper) (tail tail2 : List Nat) : List (Nat × Nat) → Nat → Bool
 | [], d => (List.range ops.size).all fun j => !rdyM ops d j
 | (i, 0) :: l, d => (waitB ops tail i && freeM ops d i && Nat.blt i ops.size && rdyM ops d i) && walkF ops tail tail2 l (d ||| 1 <<< i)
 | (i, 3) :: l, d => (waitB ops tail2 i && freeM ops d i && Nat.blt i ops.size && rdyM ops d i) && walkF ops tail tail2 l (d ||| 1 <<< i)
 | (i, _) :: l, d => (Nat.blt i ops.size && rdyM ops d i && (List.range ops.size).all fun j => Nat.beq j i || !rdyM ops d j) && walkF ops tail tail2 l (d ||| 1 <<< i)
def Agree (ops : Array Oper) (listed : Array Bool) (d : Nat) : Prop := listed.size = ops.size ∧ ∀ k, listed.getD k false = d.testBit k
theorem Agree.start (ops : Array Oper) : Agree ops (Array.replicate ops.size false) 0 := ⟨by simp, fun k => by
 rw [Nat.zero_testBit, Array.getD_eq_getD_getElem?, Array.getElem?_replicate]
 split <;> rfl⟩
theorem Agree.set {ops : Array Oper} {listed : Array Bool} {d i : Nat} (h : Agree ops listed d) (hi : i < ops.size) : Agree ops (listed.setIfInBounds i true) (d ||| 1 <<< i) := ⟨by simpa using h.1, fun k => by
 rw [Nat.testBit_or, Nat.one_shiftLeft, Nat.testBit_two_pow, ← h.2 k]
 by_cases e : i = k
 ·subst e
  have : i < listed.size := by rw [h.1]; exact hi
  simp [this]
 ·rw [getD_set_ne false e, decide_eq_false e, Bool.or_false]⟩
theorem Agree.ready {ops : Array Oper} {listed : Array Bool} {d j : Nat} (h : Agree ops listed d) (hj : j < ops.size) : j ∈ Region.ready .any ops listed ↔ rdyM ops d j = true := by
 have e1 : listed.getD j true = d.testBit j := by rw [← h.2 j]; exact getD_lt (by rw [h.1]; exact hj) _ _
 have ho : ops[j]? = some ops[j] := Array.getElem?_eq_getElem hj
 have hm : omaskAt ops j = emask ops[j].after.toList := by unfold omaskAt; rw [ho]
 rw [mem_ready, e1]
 unfold rdyM
 rw [Bool.and_eq_true, Bool.not_eq_true', Nat.beq_eq, hm]
 refine and_congr_right fun _ => ?_
 constructor
 ·rintro ⟨o, ho2, hall⟩
  rw [ho] at ho2; cases ho2
  refine Nat.eq_of_testBit_eq fun k => ?_
  rw [Nat.testBit_and]
  cases hk : (emask ops[j].after.toList).testBit k with
  | false => rfl
  | true =>
   obtain ⟨e, he, hb, rfl⟩ := emask_bit hk
   have := hall e (by simpa using he) hb
   rw [h.2] at this
   rw [this]; rfl
 ·intro he
  refine ⟨_, ho, fun e hmem hb => ?_⟩
  have hk := emask_of hb (l := ops[j].after.toList) (by simpa using hmem)
  rw [h.2]
  rw [← he, Nat.testBit_and, Bool.and_eq_true] at hk
  exact hk.2
theorem ready_lt {ops : Array Oper} {listed : Array Bool} {j : Nat} (h : j ∈ Region.ready .any ops listed) : j < ops.size := by
 obtain ⟨_, o, ho, _⟩ := mem_ready.1 h
 exact (Array.getElem?_eq_some_iff.1 ho).1
theorem single_of {l : List Nat} {i : Nat} (hn : l.Nodup) (h : ∀ j, j ∈ l ↔ j = i) : l = [i] := by
 cases l with
 | nil => exact absurd ((h i).2 rfl) (by simp)
 | cons a l =>
  obtain rfl : a = i := (h a).1 (by simp)
  have h1 := (List.nodup_cons.1 hn).1
  cases l with
  | nil => rfl
  | cons b l =>
   have : b = a := (h b).1 (by simp)
   subst this
   exact absurd (by simp) h1
theorem ready_nodup (ops : Array Oper) (listed : Array Bool) : (Region.ready .any ops listed).Nodup := by
 unfold Region.ready
 exact List.nodup_range.filter _
theorem free_ok {ops : Array Oper} {listed : Array Bool} {d i : Nat} (h : Agree ops listed d) (hf : freeM ops d i = true) : Region.free .any ops listed i = true := by
 unfold freeM at hf
 unfold Region.free
 cases ho : ops[i]? with
 | none => rw [ho] at hf; cases hf
 | some oi =>
  rw [ho] at hf
  simp only at hf ⊢
  rw [List.all_eq_true] at hf ⊢
  intro j hj
  have hjs : j < ops.size := List.mem_range.1 hj
  have h1 := hf j hj
  have e1 : listed.getD j true = d.testBit j := by rw [← h.2 j]; exact getD_lt (by rw [h.1]; exact hjs) _ _
  have hoj : ops[j]? = some ops[j] := Array.getElem?_eq_getElem hjs
  rw [hoj] at h1 ⊢
  simp only [Bool.or_eq_true] at h1 ⊢
  rw [e1]
  rcases h1 with ((h1 | h1) | h1) | h1
  ·exact .inl (.inl (by simpa using h1))
  ·exact .inl (.inr h1)
  ·obtain ⟨o, ho2, e, he, hb, hon⟩ := omaskAt_bit h1
   rw [hoj] at ho2; cases ho2
   exact .inr (.inl (Array.any_eq_true'.2 ⟨e, he, by rw [hb, hon]; simp⟩))
  ·exact .inr (.inr h1)
theorem loud_ok {ops : Array Oper} {tail tail2 : List Nat} {i : Nat} {l : List (Nat × Nat)} {listed : Array Bool} {d : Nat} (h : Agree ops listed d) (ih : ∀ {listed : Array Bool} {d : Nat}, Agree ops listed d → walkF ops tail tail2 l d = true → walkB ops tail tail2 l listed = true) (hw : ((Nat.blt i ops.size && rdyM ops d i && (List.range ops.size).all fun j => Nat.beq j i || !rdyM ops d j) && walkF ops tail tail2 l (d ||| 1 <<< i)) = true) : ((Region.ready .any ops listed == [i]) && walkB ops tail tail2 l (listed.setIfInBounds i true)) = true := by
 simp only [Bool.and_eq_true, Nat.blt_eq, List.all_eq_true, Bool.or_eq_true, Nat.beq_eq, Bool.not_eq_true'] at hw
 obtain ⟨⟨⟨h1, h2⟩, h3⟩, h4⟩ := hw
 rw [Bool.and_eq_true]
 refine ⟨?_, ih (h.set h1) h4⟩
 rw [beq_iff_eq]
 refine single_of (ready_nodup _ _) fun j => ⟨fun hj => ?_, fun e => e ▸ (h.ready h1).2 h2⟩
 have hjs := ready_lt hj
 rcases h3 j (List.mem_range.2 hjs) with e | e
 ·exact e
 ·rw [(h.ready hjs).1 hj] at e; cases e
theorem walkF_ok {ops : Array Oper} {tail tail2 : List Nat} : ∀ {l : List (Nat × Nat)} {listed : Array Bool} {d : Nat}, Agree ops listed d → walkF ops tail tail2 l d = true → walkB ops tail tail2 l listed = true
 | [], listed, d, h, hw => by
  simp only [walkF, List.all_eq_true] at hw
  show (Region.ready .any ops listed).isEmpty = true
  cases hr : Region.ready .any ops listed with
  | nil => rfl
  | cons j r =>
   have hj : j ∈ Region.ready .any ops listed := by rw [hr]; simp
   have h1 := hw j (List.mem_range.2 (ready_lt hj))
   rw [(h.ready (ready_lt hj)).1 hj] at h1; cases h1
 | (i, 0) :: l, listed, d, h, hw => by
  simp only [walkF, Bool.and_eq_true, Nat.blt_eq] at hw
  obtain ⟨⟨⟨⟨h1, h2⟩, h3⟩, h4⟩, h5⟩ := hw
  simp only [walkB, Bool.and_eq_true]
  exact ⟨⟨⟨h1, free_ok h h2⟩, by simpa using (h.ready h3).2 h4⟩, walkF_ok (h.set h3) h5⟩
 | (i, 3) :: l, listed, d, h, hw => by
  simp only [walkF, Bool.and_eq_true, Nat.blt_eq] at hw
  obtain ⟨⟨⟨⟨h1, h2⟩, h3⟩, h4⟩, h5⟩ := hw
  simp only [walkB, Bool.and_eq_true]
  exact ⟨⟨⟨h1, free_ok h h2⟩, by simpa using (h.ready h3).2 h4⟩, walkF_ok (h.set h3) h5⟩
 | (i, 1) :: l, listed, d, h, hw => loud_ok h walkF_ok hw
 | (i, 2) :: l, listed, d, h, hw => loud_ok h walkF_ok hw
 | (i, m + 4) :: l, listed, d, h, hw => loud_ok h walkF_ok hw
def drawF (ops : Array Oper) (l : List (Nat × Nat)) : Bool := (Region.noSelect ops && noDeferB ops && Nat.beq l.length ops.size && (l.all fun q => (q.2 == 2 || !(tailOf l).contains q.1) && (q.2 == 2 || q.2 == 4 || !(tailOf2 l).contains q.1))) && walkF ops (tailOf l) (tailOf2 l) l 0
theorem drawF_ok {ops : Array Oper} {l : List (Nat × Nat)} (h : drawF ops l = true) : drawB ops l = true := by
 simp only [drawF, Bool.and_eq_true, Nat.beq_eq] at h
 obtain ⟨⟨⟨⟨h1, h2⟩, h3⟩, h4⟩, h5⟩ := h
 simp only [drawB, Bool.and_eq_true]
 exact ⟨⟨⟨⟨h1, h2⟩, by rw [h3]; simp⟩, h4⟩, walkF_ok (Agree.start ops) h5⟩
end Go.Lx


namespace Go.Lx
def rowOk (n : Nat) (r : List Int) : Bool := r.all fun x => decide (0 ≤ x) && decide (x < (n : Int))
def rowsE (L n : Nat) : List (List Int) → Nat
 | [] => 0
 | r :: rs => if r.length ≠ L then 2 else if rowOk n r = true then rowsE L n rs else 8
def checkD (d : DFA) : Nat :=
 if ¬ (0 ≤ d.vars ∧ d.vars ≤ 6) then 7
 else if d.next.length = 0 then 3
 else if 4096 < d.next.length then 4
 else if d.final.length ≠ d.next.length then 2
 else if d.start < 0 ∨ (d.next.length : Int) ≤ d.start then 8
 else rowsE (2 ^ d.vars.toNat) d.next.length d.next
theorem rowOk_step {n : Nat} {r : List Int} {j : Nat} (hj : j < r.length) (h : rowOk n (r.take j) = true) (h0 : ¬ r[j] < 0) (h1 : ¬ (n : Int) ≤ r[j]) : rowOk n (r.take (j + 1)) = true := by
 rw [List.take_succ_eq_append_getElem hj]
 simp only [rowOk, List.all_append, Bool.and_eq_true] at h ⊢
 refine ⟨h, ?_⟩
 simp; omega
theorem rowOk_bad {n : Nat} {r : List Int} {j : Nat} (hj : j < r.length) (h : r[j] < 0 ∨ (n : Int) ≤ r[j]) : ¬ rowOk n r = true := by
 intro hh
 simp only [rowOk, List.all_eq_true, Bool.and_eq_true, decide_eq_true_eq] at hh
 have := hh _ (List.getElem_mem hj)
 omega
theorem rowOk_full {n : Nat} {r : List Int} {j : Nat} (hj : r.length ≤ j) (h : rowOk n (r.take j) = true) : rowOk n r = true := by
 rwa [List.take_of_length_le hj] at h
structure Val (d : DFA) : Prop where
 v0 : 0 ≤ d.vars
 v6 : d.vars ≤ 6
 n0 : 0 < d.next.length
 fin : d.final.length = d.next.length
 s0 : 0 ≤ d.start
 s1 : d.start < (d.next.length : Int)
 len : ∀ r ∈ d.next, r.length = 2 ^ d.vars.toNat
 ok : ∀ r ∈ d.next, ∀ x ∈ r, 0 ≤ x ∧ x < (d.next.length : Int)
structure Valid (d : DFA) : Prop extends Val d where
 n4 : d.next.length ≤ 4096
instance {d : DFA} : Coe (Valid d) (Val d) := ⟨Valid.toVal⟩
theorem rowsE_zero {L n : Nat} : ∀ {rs : List (List Int)}, rowsE L n rs = 0 ↔ (∀ r ∈ rs, r.length = L) ∧ ∀ r ∈ rs, ∀ x ∈ r, 0 ≤ x ∧ x < (n : Int)
 | [] => by simp [rowsE]
 | r :: rs => by
  have ih := rowsE_zero (L := L) (n := n) (rs := rs)
  simp only [rowsE]
  by_cases h : r.length = L
  ·by_cases h2 : rowOk n r = true
   ·simp only [h, ne_eq, not_true_eq_false, if_false, h2, if_true, ih, List.mem_cons, forall_eq_or_imp, true_and]
    have h3 : ∀ x ∈ r, 0 ≤ x ∧ x < (n : Int) := by simpa [rowOk] using h2
    exact ⟨fun q => ⟨q.1, h3, q.2⟩, fun q => ⟨q.1, q.2.2⟩⟩
   ·simp only [h, ne_eq, not_true_eq_false, if_false, h2]
    refine ⟨fun q => by simp at q, fun q => (h2 ?_).elim⟩
    have := q.2 r (by simp)
    simpa [rowOk] using this
  ·simp only [ne_eq, h, not_false_eq_true, if_true]
   exact ⟨fun q => by simp at q, fun q => (h (q.1 r (by simp))).elim⟩
theorem checkD_zero {d : DFA} : checkD d = 0 ↔ Valid d := by
 unfold checkD
 constructor
 ·intro h
  split at h; · cases h
  split at h; · cases h
  split at h; · cases h
  split at h; · cases h
  split at h; · cases h
  rename_i h1 h2 h3 h4 h5
  obtain ⟨h6, h7⟩ := rowsE_zero.1 h
  simp only [Classical.not_not] at h1 h4
  exact ⟨⟨h1.1, h1.2, by omega, h4, by omega, by omega, h6, h7⟩, by omega⟩
 ·intro h
  rw [if_neg (by have := h.v0; have := h.v6; simp; omega), if_neg (by have := h.n0; omega), if_neg (by have := h.n4; omega), if_neg (by simp [h.fin]), if_neg (by have := h.s0; have := h.s1; omega)]
  exact rowsE_zero.2 ⟨h.len, h.ok⟩
theorem Val.width {d : DFA} (h : Val d) : 2 ^ d.vars.toNat ≤ 64 :=
 Nat.le_trans (Nat.pow_le_pow_right (by omega) (show d.vars.toNat ≤ 6 by have := h.v0; have := h.v6; omega)) (by decide)
end Go.Lx


namespace Go.Lx
section
variable {α : Type} [DecidableEq α]
def ix (x : α) : List α → Nat
 | [] => 0
 | k :: ks => if x = k then 0 else ix x ks + 1
theorem ix_lt {x : α} : ∀ {ks : List α}, x ∈ ks → ix x ks < ks.length
 | k :: ks, h => by
  simp only [ix]
  split
  ·simp
  ·rename_i e
   have := ix_lt ((List.mem_cons.1 h).resolve_left e)
   simp; omega
theorem ix_get {x : α} : ∀ {ks : List α}, x ∈ ks → ks[ix x ks]? = some x
 | k :: ks, h => by
  simp only [ix]
  split
  ·rename_i e; simp [e]
  ·rename_i e
   simpa using ix_get ((List.mem_cons.1 h).resolve_left e)
theorem ix_inj {x y : α} {ks : List α} (hx : x ∈ ks) (hy : y ∈ ks) (h : ix x ks = ix y ks) : x = y := by
 have h1 := ix_get hx
 rw [h, ix_get hy] at h1
 exact (Option.some.inj h1).symm
theorem ix_append_left {x : α} {ms : List α} : ∀ {ks : List α}, x ∈ ks → ix x (ks ++ ms) = ix x ks
 | k :: ks, h => by
  simp only [List.cons_append, ix]
  split
  ·rfl
  ·rename_i e; rw [ix_append_left ((List.mem_cons.1 h).resolve_left e)]
theorem ix_append_right {x : α} {ms : List α} : ∀ {ks : List α}, x ∉ ks → ix x (ks ++ ms) = ks.length + ix x ms
 | [], _ => by simp
 | k :: ks, h => by
  simp only [List.mem_cons, not_or] at h
  simp only [List.cons_append, ix, h.1, if_false, ix_append_right h.2, List.length_cons]
  omega
def add (ks : List α) (k : α) : List α := if k ∈ ks then ks else ks ++ [k]
def dd (l : List α) : List α := l.foldl add []
theorem mem_add {ks : List α} {k x : α} : x ∈ add ks k ↔ x ∈ ks ∨ x = k := by
 unfold add
 split
 ·rename_i h
  exact ⟨.inl, fun h' => h'.elim id (fun e => e ▸ h)⟩
 ·simp
theorem add_nodup {ks : List α} {k : α} (h : ks.Nodup) : (add ks k).Nodup := by
 unfold add
 split
 ·exact h
 ·rename_i hk
  rw [List.nodup_append]
  refine ⟨h, by simp, fun a ha b hb e => ?_⟩
  simp at hb; subst hb; subst e; exact hk ha
theorem add_prefix (ks : List α) (k : α) : ks <+: add ks k := by
 unfold add
 split
 ·exact List.prefix_refl _
 ·exact List.prefix_append _ _
theorem foldl_prefix : ∀ (l ks : List α), ks <+: l.foldl add ks
 | [], ks => List.prefix_refl _
 | k :: l, ks => (add_prefix ks k).trans (foldl_prefix l (add ks k))
theorem dd_append (l m : List α) : dd (l ++ m) = m.foldl add (dd l) := by simp [dd]
theorem dd_snoc (l : List α) (k : α) : dd (l ++ [k]) = add (dd l) k := by simp [dd]
theorem mem_dd {l : List α} {x : α} : x ∈ dd l ↔ x ∈ l := by
 have : ∀ (l ks : List α), x ∈ l.foldl add ks ↔ x ∈ ks ∨ x ∈ l := by
  intro l
  induction l with
  | nil => intro ks; simp
  | cons k l ih => intro ks; rw [List.foldl_cons, ih, mem_add, List.mem_cons, or_assoc]
 rw [dd, this]; simp
theorem ix_prefix {ks ms : List α} (h : ks <+: ms) {x : α} (hx : x ∈ ks) : ix x ms = ix x ks := by
 obtain ⟨t, rfl⟩ := h
 exact ix_append_left hx
theorem look_zip {x : α} : ∀ (ks : List α) (i : Nat), lookL x (ks.zipIdx i) = if x ∈ ks then some (i + ix x ks) else none
 | [], i => by simp [lookL]
 | k :: ks, i => by
  simp only [List.zipIdx_cons, lookL]
  by_cases e : x = k
  ·subst e; simp [ix]
  ·rw [if_neg e, look_zip ks (i + 1)]
   by_cases h : x ∈ ks
   ·simp [h, e, ix]; omega
   ·simp [h, e]
theorem zipIdx_fst (ks : List α) (i : Nat) : (ks.zipIdx i).map Prod.fst = ks := by
 induction ks generalizing i with
 | nil => rfl
 | cons k ks ih => simp [List.zipIdx_cons]
end
def rowK (cs : List Nat) (r : List Int) : List Nat := r.map fun to => cs.getD to.toNat 0
def keyD (d : DFA) (cs : List Nat) (s : Nat) : List UInt8 := keyK (cs.getD s 0) (rowK cs (d.next.getD s []))
def keysD (d : DFA) (cs : List Nat) : List (List UInt8) := (List.range d.next.length).map (keyD d cs)
def refineF (d : DFA) (cs : List Nat) : List Nat := (keysD d cs).map fun k => ix k (dd (keysD d cs))
theorem dd_length {α : Type} [DecidableEq α] (l : List α) : (dd l).length ≤ l.length := by
 have : ∀ (l ks : List α), (l.foldl add ks).length ≤ ks.length + l.length := by
  intro l
  induction l with
  | nil => intro ks; simp
  | cons k l ih =>
   intro ks
   have h1 := ih (add ks k)
   have h2 : (add ks k).length ≤ ks.length + 1 := by unfold add; split <;> simp
   simp only [List.foldl_cons, List.length_cons]
   omega
 simpa [dd] using this l []
theorem rowK_length (cs : List Nat) (r : List Int) : (rowK cs r).length = r.length := List.length_map _
def beginF (d : DFA) : List Nat := (List.range d.next.length).map fun s => if d.final.getD s false ≠ d.final.getD 0 false then 1 else 0
def itF (d : DFA) : Nat → List Nat
 | 0 => beginF d
 | i + 1 => refineF d (itF d i)
theorem itF_length (d : DFA) (i : Nat) : (itF d i).length = d.next.length := by
 cases i <;> simp [itF, beginF, refineF, keysD]
theorem itF_stable {d : DFA} {i : Nat} (h : refineF d (itF d i) = itF d i) : ∀ m, i ≤ m → itF d m = itF d i := by
 intro m hm
 induction hm with
 | refl => rfl
 | step _ ih => rw [itF, ih, h]
def exRow (tr : List UInt8 → Nat → List UInt8) (L : Nat) (ks : List (List UInt8)) (s : Nat) : List Int :=
 (List.range L).map fun x => ((ix (tr (ks.getD s []) x) ks : Nat) : Int)
theorem foldl_add_snoc {α : Type} [DecidableEq α] (f : Nat → α) (ks : List α) (x : Nat) : ((List.range (x + 1)).map f).foldl add ks = add (((List.range x).map f).foldl add ks) (f x) := by
 rw [List.range_succ, List.map_append, List.foldl_append]; rfl
theorem mem_foldl_add {α : Type} [DecidableEq α] {y : α} : ∀ (l ks : List α), y ∈ l.foldl add ks ↔ y ∈ ks ∨ y ∈ l
 | [], ks => by simp
 | k :: l, ks => by rw [List.foldl_cons, mem_foldl_add l, mem_add, List.mem_cons, or_assoc]
theorem prefix_getD {ks ms : List (List UInt8)} (h : ks <+: ms) {s : Nat} (hs : s < ks.length) : ms.getD s [] = ks.getD s [] := by
 obtain ⟨t, rfl⟩ := h
 rw [List.getD_eq_getElem?_getD, List.getD_eq_getElem?_getD, List.getElem?_append_left hs]
structure ExOk (tr : List UInt8 → Nat → List UInt8) (L : Nat) (ks : List (List UInt8)) (s : Nat) (rs : List (List Int)) : Prop where
 len : rs.length = s
 le : s ≤ ks.length
 row : ∀ i, i < s → rs[i]? = some (exRow tr L ks i)
 mem : ∀ i, i < s → ∀ x, x < L → tr (ks.getD i []) x ∈ ks
theorem exRow_prefix {tr : List UInt8 → Nat → List UInt8} {L : Nat} {ks ms : List (List UInt8)} (h : ks <+: ms) {s : Nat} (hs : s < ks.length) (hm : ∀ x, x < L → tr (ks.getD s []) x ∈ ks) : exRow tr L ms s = exRow tr L ks s := by
 unfold exRow
 apply List.map_congr_left
 intro x hx
 rw [prefix_getD h hs, ix_prefix h (hm x (List.mem_range.1 hx))]
theorem ExOk.snoc {tr : List UInt8 → Nat → List UInt8} {L : Nat} {ks ms : List (List UInt8)} {s : Nat} {rs : List (List Int)} {ys : List Int} (h : ExOk tr L ks s rs) (hp : ks <+: ms) (hs : s < ks.length) (hy : ys = exRow tr L ms s) (hm : ∀ x, x < L → tr (ms.getD s []) x ∈ ms) : ExOk tr L ms (s + 1) (rs ++ [ys]) := by
 have hle := hp.length_le
 refine ⟨by simp [h.len], by omega, fun i hi => ?_, fun i hi => ?_⟩
 ·by_cases e : i = s
  ·subst e; rw [List.getElem?_append_right (by rw [h.len]; exact Nat.le_refl _), h.len, hy]; simp
  ·rw [List.getElem?_append_left (by rw [h.len]; omega), h.row i (by omega), exRow_prefix hp (by omega) (h.mem i (by omega))]
 ·by_cases e : i = s
  ·subst e; exact hm
  ·intro x hx
   rw [prefix_getD hp (by omega)]
   exact hp.subset (h.mem i (by omega) x hx)
def toN (d : DFA) (o x : Nat) : Nat := ((d.next.getD o []).getD x 0).toNat
def sucs (d : DFA) (o : Nat) : List Nat := (List.range (2 ^ d.vars.toNat)).map (toN d o)
def bfsN (d : DFA) : Nat → List Nat
 | 0 => [d.start.toNat]
 | s + 1 => if s < (bfsN d s).length then (sucs d ((bfsN d s).getD s 0)).foldl add (bfsN d s) else bfsN d s
def order (d : DFA) : List Nat := bfsN d d.next.length
def renum (d : DFA) : DFA where
 vars := d.vars
 start := 0
 next := (order d).map fun o => (sucs d o).map fun t => ((ix t (order d) : Nat) : Int)
 final := (order d).map fun o => d.final.getD o false
theorem Val.toN_lt {d : DFA} (hv : Val d) {o x : Nat} (ho : o < d.next.length) (hx : x < 2 ^ d.vars.toNat) : toN d o x < d.next.length ∧ ∃ h : o < d.next.length, ∃ hx' : x < d.next[o].length, d.next[o][x] = (toN d o x : Int) := by
 have hl : d.next[o].length = 2 ^ d.vars.toNat := hv.len _ (List.getElem_mem ho)
 have hx' : x < d.next[o].length := by omega
 have h1 := hv.ok _ (List.getElem_mem ho) _ (List.getElem_mem hx')
 have e : toN d o x = d.next[o][x].toNat := by simp [toN, ho, hx']
 exact ⟨by omega, ho, hx', by omega⟩
theorem nodup_bound : ∀ {n : Nat} {l : List Nat}, l.Nodup → (∀ x ∈ l, x < n) → l.length ≤ n
 | 0, l, _, hb => by
  cases l with
  | nil => simp
  | cons a l => exact absurd (hb a (by simp)) (by omega)
 | n + 1, l, h, hb => by
  by_cases hn : n ∈ l
  ·have h1 := nodup_bound (n := n) (h.erase n) fun x hx => by
    have := (List.Nodup.mem_erase_iff h).1 hx
    have := hb x this.2
    omega
   rw [List.length_erase_of_mem hn] at h1
   omega
  ·have := nodup_bound (n := n) h fun x hx => by
    have := hb x hx
    have : x ≠ n := fun e => hn (e ▸ hx)
    omega
   omega
theorem bfsN_stable {d : DFA} {N : Nat} (h : (bfsN d N).length = N) : ∀ m, N ≤ m → bfsN d m = bfsN d N := by
 intro m hm
 induction hm with
 | refl => rfl
 | @step m hm ih =>
  have hm' : N ≤ m := hm
  rw [bfsN, ih, if_neg (by omega)]
theorem order_eq {d : DFA} {N : Nat} (h : (bfsN d N).length = N) (hn : N ≤ d.next.length) : order d = bfsN d N := bfsN_stable h _ hn
def quoN (d : DFA) (cs : List Nat) : Nat → List (List Int) × List Bool
 | 0 => ([], [])
 | k + 1 => if cs.getD k 0 < (quoN d cs k).1.length then quoN d cs k else
   ((quoN d cs k).1 ++ [(rowK cs (d.next.getD k [])).map fun c : Nat => (c : Int)], (quoN d cs k).2 ++ [d.final.getD k false])
def quo (d : DFA) (cs : List Nat) : DFA where
 vars := d.vars
 start := ((cs.getD d.start.toNat 0 : Nat) : Int)
 next := (quoN d cs d.next.length).1
 final := (quoN d cs d.next.length).2
theorem quoN_len (d : DFA) (cs : List Nat) : ∀ k, (quoN d cs k).1.length = (quoN d cs k).2.length ∧ (quoN d cs k).1.length ≤ k
 | 0 => by simp [quoN]
 | k + 1 => by
  have ih := quoN_len d cs k
  rw [quoN]
  split
  ·exact ⟨ih.1, by omega⟩
  ·simp; omega
end Go.Lx


namespace Go.Lx
theorem snocInd {α : Type} {p : List α → Prop} (h0 : p []) (h1 : ∀ l x, p l → p (l ++ [x])) : ∀ l, p l := fun l => by
 rw [← List.reverse_reverse l]
 generalize l.reverse = m
 induction m with
 | nil => exact h0
 | cons a m ih => rw [List.reverse_cons]; exact h1 _ _ ih
abbrev letN (d : DFA) : Nat := 2 ^ d.vars.toNat
def runN (d : DFA) (s : Nat) (w : List Nat) : Nat := w.foldl (toN d) s
def finN (d : DFA) (s : Nat) : Bool := d.final.getD s false
def dst (d : DFA) (s t : Nat) (w : List Nat) : Prop := finN d (runN d s w) ≠ finN d (runN d t w)
def Wd (d : DFA) (w : List Nat) : Prop := ∀ x ∈ w, x < letN d
def code (w : List Nat) : Nat := w.foldl (fun a x => a * 65 + (x + 1)) 0
theorem code_snoc (w : List Nat) (x : Nat) : code (w ++ [x]) = code w * 65 + (x + 1) := by simp [code]
theorem runN_snoc (d : DFA) (s : Nat) (w : List Nat) (x : Nat) : runN d s (w ++ [x]) = toN d (runN d s w) x := by simp [runN]
theorem code_inj : ∀ (w u : List Nat), (∀ x ∈ w, x < 64) → (∀ x ∈ u, x < 64) → code w = code u → w = u := by
 refine snocInd ?_ ?_
 ·refine snocInd (fun _ _ _ => rfl) ?_
  intro u y _ _ _ h
  rw [code_snoc] at h
  exact absurd h (by simp [code])
 ·intro w x ih
  refine snocInd ?_ ?_
  ·intro _ _ h
   rw [code_snoc] at h
   exact absurd h (by simp [code])
  ·intro u y _ hw hu h
   rw [code_snoc, code_snoc] at h
   have hx := hw x (by simp)
   have hy := hu y (by simp)
   have e : x = y := by omega
   have := ih u (fun z hz => hw z (by simp [hz])) (fun z hz => hu z (by simp [hz])) (by omega)
   rw [this, e]
theorem code_len : ∀ (w u : List Nat), (∀ x ∈ w, x < 64) → (∀ x ∈ u, x < 64) → code w ≤ code u → w.length ≤ u.length := by
 refine snocInd (fun u _ _ _ => by simp) ?_
 intro w x ih
 refine snocInd ?_ ?_
 ·intro _ _ h
  rw [code_snoc] at h
  simp [code] at h
 ·intro u y _ hw hu h
  rw [code_snoc, code_snoc] at h
  have hx := hw x (by simp)
  have hy := hu y (by simp)
  have := ih u (fun z hz => hw z (by simp [hz])) (fun z hz => hu z (by simp [hz])) (by omega)
  simpa using this
structure IsLeast (d : DFA) (s t : Nat) (w : List Nat) : Prop where
 wd : Wd d w
 dst : dst d s t w
 le : ∀ u, Wd d u → Lx.dst d s t u → code w ≤ code u
def Tell (d : DFA) (s t : Nat) : Option (List Nat) → Prop
 | some w => IsLeast d s t w
 | none => ∀ u, Wd d u → ¬ dst d s t u
theorem Val.wd64 {d : DFA} (hv : Val d) {w : List Nat} (h : Wd d w) : ∀ x ∈ w, x < 64 := fun x hx => by
 have := h x hx; have := hv.width; unfold letN at *; omega
theorem Tell.unique {d : DFA} (hv : Val d) {s t : Nat} {a b : Option (List Nat)} (ha : Tell d s t a) (hb : Tell d s t b) : a = b := by
 cases a with
 | none =>
  cases b with
  | none => rfl
  | some w => exact absurd hb.dst (ha w hb.wd)
 | some u =>
  cases b with
  | none => exact absurd ha.dst (hb u ha.wd)
  | some w =>
   have h1 := ha.le w hb.wd hb.dst
   have h2 := hb.le u ha.wd ha.dst
   rw [code_inj u w (hv.wd64 ha.wd) (hv.wd64 hb.wd) (by omega)]
abbrev Stp := (Nat × Nat) × List Nat
def suc2 (d : DFA) (p : Nat × Nat) (x : Nat) : Nat × Nat := (toN d p.1 x, toN d p.2 x)
def pushS (d : DFA) (q : Stp) (a : List Stp) (x : Nat) : List Stp := if suc2 d q.1 x ∈ a.map Prod.fst then a else a ++ [(suc2 d q.1 x, q.2 ++ [x])]
def pushN (d : DFA) (q : Stp) (a : List Stp) : Nat → List Stp
 | 0 => a
 | x + 1 => pushS d q (pushN d q a x) x
def bq (d : DFA) (s t : Nat) : Nat → List Stp
 | 0 => [((s, t), [])]
 | i + 1 => pushN d ((bq d s t i).getD i ((0, 0), [])) (bq d s t i) (letN d)
structure BfsI (d : DFA) (s t i : Nat) (A : List Stp) : Prop where
 run : ∀ q ∈ A, Wd d q.2 ∧ q.1 = (runN d s q.2, runN d t q.2)
 mono : ∀ (j k : Nat) (qj qk : Stp), j < k → A[j]? = some qj → A[k]? = some qk → code qj.2 < code qk.2
 nd : (A.map Prod.fst).Nodup
 suc : ∀ j q, j < i → A[j]? = some q → ∀ x, x < letN d → ∃ q' ∈ A, q'.1 = suc2 d q.1 x ∧ code q'.2 ≤ code q.2 * 65 + (x + 1)
 top : ∀ q, A[i]? = some q → ∀ q' ∈ A, code q'.2 < code q.2 * 65 + 1
 first : ∃ q, A[0]? = some q ∧ q.1 = (s, t) ∧ q.2 = []
theorem BfsI.zero (d : DFA) (s t : Nat) : BfsI d s t 0 (bq d s t 0) := by
 refine ⟨?_, ?_, by simp [bq], fun j q h => absurd h (by omega), ?_, ⟨_, rfl, rfl, rfl⟩⟩
 ·intro q hq
  simp only [bq, List.mem_singleton] at hq
  subst hq
  exact ⟨fun x hx => by simp at hx, rfl⟩
 ·intro j k qj qk hjk _ hk
  simp only [bq] at hk
  have : k = 0 := by
   cases k with
   | zero => rfl
   | succ k => simp at hk
  omega
 ·intro q hq q' hq'
  simp only [bq, List.mem_singleton] at hq'
  subst hq'
  simp [code]
structure BfsM (d : DFA) (s t i : Nat) (q : Stp) (x : Nat) (A : List Stp) : Prop where
 run : ∀ q ∈ A, Wd d q.2 ∧ q.1 = (runN d s q.2, runN d t q.2)
 mono : ∀ (j k : Nat) (qj qk : Stp), j < k → A[j]? = some qj → A[k]? = some qk → code qj.2 < code qk.2
 nd : (A.map Prod.fst).Nodup
 suc : ∀ j q, j < i → A[j]? = some q → ∀ x, x < letN d → ∃ q' ∈ A, q'.1 = suc2 d q.1 x ∧ code q'.2 ≤ code q.2 * 65 + (x + 1)
 suci : ∀ y, y < x → ∃ q' ∈ A, q'.1 = suc2 d q.1 y ∧ code q'.2 ≤ code q.2 * 65 + (y + 1)
 top : ∀ q' ∈ A, code q'.2 < code q.2 * 65 + (x + 1)
 at_ : A[i]? = some q
 first : ∃ q, A[0]? = some q ∧ q.1 = (s, t) ∧ q.2 = []
theorem BfsM.step {d : DFA} {s t i : Nat} {q : Stp} {x : Nat} {A : List Stp} (h : BfsM d s t i q x A) (hx : x < letN d) : BfsM d s t i q (x + 1) (pushS d q A x) := by
 have hq := List.mem_of_getElem? h.at_
 unfold pushS
 split
 ·rename_i hin
  obtain ⟨q', hq', e⟩ := List.mem_map.1 hin
  refine ⟨h.run, h.mono, h.nd, h.suc, fun y hy => ?_, fun q' hq' => by have := h.top q' hq'; omega, h.at_, h.first⟩
  by_cases ey : y = x
  ·subst ey; exact ⟨q', hq', e, by have := h.top q' hq'; omega⟩
  ·exact h.suci y (by omega)
 ·rename_i hout
  have hil : i < A.length := by have := List.getElem?_eq_some_iff.1 h.at_; exact this.1
  refine ⟨?_, ?_, ?_, ?_, ?_, ?_, ?_, ?_⟩
  ·intro p hp
   rcases List.mem_append.1 hp with hp | hp
   ·exact h.run p hp
   ·simp only [List.mem_singleton] at hp
    subst hp
    obtain ⟨h1, h2⟩ := h.run q hq
    refine ⟨?_, ?_⟩
    ·intro y hy
     rcases List.mem_append.1 hy with hy | hy
     ·exact h1 y hy
     ·simp only [List.mem_singleton] at hy; subst hy; exact hx
    ·rw [runN_snoc, runN_snoc]; simp only [suc2, h2]
  ·intro j k qj qk hjk hj hk
   by_cases ek : k < A.length
   ·rw [List.getElem?_append_left (by omega)] at hj
    rw [List.getElem?_append_left ek] at hk
    exact h.mono j k qj qk hjk hj hk
   ·rw [List.getElem?_append_right (by omega)] at hk
    have ek0 : k - A.length = 0 := by
     cases e : k - A.length with
     | zero => rfl
     | succ m => rw [e] at hk; simp at hk
    rw [ek0] at hk
    simp at hk
    subst hk
    rw [List.getElem?_append_left (by omega)] at hj
    show code qj.2 < code (q.2 ++ [x])
    rw [code_snoc]
    exact h.top qj (List.mem_of_getElem? hj)
  ·rw [List.map_append, List.nodup_append]
   refine ⟨h.nd, by simp, fun a ha b hb e => ?_⟩
   simp at hb; subst hb; subst e; exact hout ha
  ·intro j qj hj hq x hx
   rw [List.getElem?_append_left (by omega)] at hq
   obtain ⟨q', h1, h2⟩ := h.suc j qj hj hq x hx
   exact ⟨q', List.mem_append_left _ h1, h2⟩
  ·intro y hy
   by_cases ey : y = x
   ·subst ey; exact ⟨_, List.mem_append_right _ (List.mem_singleton.2 rfl), rfl, by rw [code_snoc]; exact Nat.le_refl _⟩
   ·obtain ⟨q', h1, h2⟩ := h.suci y (by omega)
    exact ⟨q', List.mem_append_left _ h1, h2⟩
  ·intro p hp
   rcases List.mem_append.1 hp with hp | hp
   ·have := h.top p hp; omega
   ·simp only [List.mem_singleton] at hp
    subst hp
    rw [code_snoc]; omega
  ·rw [List.getElem?_append_left hil]; exact h.at_
  ·obtain ⟨q0, h1, h2⟩ := h.first
   exact ⟨q0, by rw [List.getElem?_append_left (by omega)]; exact h1, h2⟩
theorem BfsI.mid {d : DFA} {s t i : Nat} {q : Stp} {A : List Stp} (h : BfsI d s t i A) (hq : A[i]? = some q) : ∀ x, x ≤ letN d → BfsM d s t i q x (pushN d q A x)
 | 0, _ => ⟨h.run, h.mono, h.nd, h.suc, fun y hy => absurd hy (by omega), h.top q hq, hq, h.first⟩
 | x + 1, hx => (BfsI.mid h hq x (by omega)).step (by omega)
theorem BfsI.step {d : DFA} (hv : Val d) {s t i : Nat} {q : Stp} (h : BfsI d s t i (bq d s t i)) (hq : (bq d s t i)[i]? = some q) : BfsI d s t (i + 1) (bq d s t (i + 1)) := by
 have hm := h.mid hq (letN d) (Nat.le_refl _)
 have e : bq d s t (i + 1) = pushN d q (bq d s t i) (letN d) := by
  rw [bq, List.getD_eq_getElem?_getD, hq]; rfl
 rw [e]
 have hw := hv.width
 refine ⟨hm.run, hm.mono, hm.nd, ?_, ?_, hm.first⟩
 ·intro j qj hj hqj x hx
  by_cases ej : j = i
  ·subst ej
   rw [hm.at_] at hqj
   cases hqj
   exact hm.suci x hx
  ·exact hm.suc j qj (by omega) hqj x hx
 ·intro q2 hq2 q' hq'
  have h1 := hm.mono i (i + 1) q q2 (by omega) hm.at_ hq2
  have h2 := hm.top q' hq'
  have h3 : letN d ≤ 64 := hw
  omega
end Go.Lx


namespace Go.Lx
open Go.RowKit
structure QRec where
 p : Nat × Nat
 b : Option Addr
 c : Nat
 xs : List Nat
def QRec.cells (q : QRec) : List Value := [.int .i64 ((q.p.1 : Nat) : Int), .int .i64 ((q.p.2 : Nat) : Int), .slice q.b q.xs.length q.c]
def QRec.itm (E : TypeId) (q : QRec) : Item := rowI q.b q.c E 1 (byts q.xs)
def QRec.stp (q : QRec) : Stp := (q.p, q.xs)
theorem runN_lt {d : DFA} (hv : Val d) {s : Nat} (hs : s < d.next.length) : ∀ w, Wd d w → runN d s w < d.next.length := by
 refine snocInd (fun _ => hs) ?_
 intro w x ih hw
 rw [runN_snoc]
 exact (hv.toN_lt (ih fun y hy => hw y (by simp [hy])) (hw x (by simp))).1
end Go.Lx
namespace Go.Lx
open Go.RowKit
end Go.Lx


namespace Go.Lx
section
variable {α β : Type} [DecidableEq α] [DecidableEq β]
def nrm (l : List α) : List Nat := l.map fun k => ix k (dd l)
theorem nrm_length (l : List α) : (nrm l).length = l.length := List.length_map _
theorem nrm_get {l : List α} {i : Nat} {a : α} (h : l[i]? = some a) : (nrm l)[i]? = some (ix a (dd l)) := by
 rw [nrm, List.getElem?_map, h]; rfl
theorem nrm_inj {l : List α} {i j : Nat} {a b : α} (hi : l[i]? = some a) (hj : l[j]? = some b) : (nrm l)[i]? = (nrm l)[j]? ↔ a = b := by
 rw [nrm_get hi, nrm_get hj]
 refine ⟨fun h => ix_inj (mem_dd.2 (List.mem_of_getElem? hi)) (mem_dd.2 (List.mem_of_getElem? hj)) (Option.some.inj h), fun h => h ▸ rfl⟩
theorem dd_mem_snoc {l : List α} {a : α} (h : a ∈ l) : dd (l ++ [a]) = dd l := by
 rw [dd_snoc, add, if_pos (mem_dd.2 h)]
theorem dd_new_snoc {l : List α} {a : α} (h : a ∉ l) : dd (l ++ [a]) = dd l ++ [a] := by
 rw [dd_snoc, add, if_neg (fun hh => h (mem_dd.1 hh))]
theorem nrm_pairs : ∀ zs : List (α × β), (∀ p ∈ zs, ∀ q ∈ zs, p.1 = q.1 ↔ p.2 = q.2) →
  (dd (zs.map Prod.fst)).length = (dd (zs.map Prod.snd)).length ∧ ∀ p ∈ zs, ix p.1 (dd (zs.map Prod.fst)) = ix p.2 (dd (zs.map Prod.snd)) := by
 refine snocInd (fun _ => ⟨rfl, fun p hp => by simp at hp⟩) ?_
 intro zs z ih h
 obtain ⟨h1, h2⟩ := ih fun p hp q hq => h p (List.mem_append_left _ hp) q (List.mem_append_left _ hq)
 have hz : z ∈ zs ++ [z] := by simp
 have hmem : z.1 ∈ zs.map Prod.fst ↔ z.2 ∈ zs.map Prod.snd := by
  constructor
  ·intro hm
   obtain ⟨p, hp, e⟩ := List.mem_map.1 hm
   exact List.mem_map.2 ⟨p, hp, ((h p (List.mem_append_left _ hp) z hz).1 e)⟩
  ·intro hm
   obtain ⟨p, hp, e⟩ := List.mem_map.1 hm
   exact List.mem_map.2 ⟨p, hp, ((h p (List.mem_append_left _ hp) z hz).2 e)⟩
 simp only [List.map_append, List.map_cons, List.map_nil]
 by_cases hm : z.1 ∈ zs.map Prod.fst
 ·rw [dd_mem_snoc hm, dd_mem_snoc (hmem.1 hm)]
  refine ⟨h1, fun p hp => ?_⟩
  rcases List.mem_append.1 hp with hp | hp
  ·exact h2 p hp
  ·simp only [List.mem_singleton] at hp
   subst hp
   obtain ⟨q, hq, e⟩ := List.mem_map.1 hm
   have e2 := (h q (List.mem_append_left _ hq) p hz).1 e
   rw [← e, ← e2]; exact h2 q hq
 ·have hm2 : z.2 ∉ zs.map Prod.snd := fun hh => hm (hmem.2 hh)
  rw [dd_new_snoc hm, dd_new_snoc hm2]
  refine ⟨by simp [h1], fun p hp => ?_⟩
  rcases List.mem_append.1 hp with hp | hp
  ·rw [ix_append_left (mem_dd.2 (List.mem_map_of_mem hp)), ix_append_left (mem_dd.2 (List.mem_map_of_mem hp))]
   exact h2 p hp
  ·simp only [List.mem_singleton] at hp
   subst hp
   rw [ix_append_right (fun hh => hm (mem_dd.1 hh)), ix_append_right (fun hh => hm2 (mem_dd.1 hh)), h1]
   simp [ix]
theorem dd_finer : ∀ zs : List (α × β), (∀ p ∈ zs, ∀ q ∈ zs, p.1 = q.1 → p.2 = q.2) →
  (dd (zs.map Prod.snd)).length ≤ (dd (zs.map Prod.fst)).length ∧ ((dd (zs.map Prod.snd)).length = (dd (zs.map Prod.fst)).length → ∀ p ∈ zs, ∀ q ∈ zs, p.2 = q.2 → p.1 = q.1) := by
 refine snocInd (fun _ => ⟨Nat.le_refl _, fun _ p hp => by simp at hp⟩) ?_
 intro zs z ih h
 obtain ⟨h1, h2⟩ := ih fun p hp q hq => h p (List.mem_append_left _ hp) q (List.mem_append_left _ hq)
 have hz : z ∈ zs ++ [z] := by simp
 simp only [List.map_append, List.map_cons, List.map_nil]
 by_cases hm : z.1 ∈ zs.map Prod.fst
 ·obtain ⟨q, hq, e⟩ := List.mem_map.1 hm
  have e2 := h q (List.mem_append_left _ hq) z hz e
  have hm2 : z.2 ∈ zs.map Prod.snd := List.mem_map.2 ⟨q, hq, e2⟩
  rw [dd_mem_snoc hm, dd_mem_snoc hm2]
  refine ⟨h1, fun he p hp p' hp' ee => ?_⟩
  have h2' := h2 he
  have lift : ∀ p ∈ zs ++ [z], ∃ p0 ∈ zs, p0.1 = p.1 ∧ p0.2 = p.2 := fun p hp => by
   rcases List.mem_append.1 hp with hp | hp
   ·exact ⟨p, hp, rfl, rfl⟩
   ·simp only [List.mem_singleton] at hp; subst hp; exact ⟨q, hq, e, e2⟩
  obtain ⟨a, ha, a1, a2⟩ := lift p hp
  obtain ⟨b, hb, b1, b2⟩ := lift p' hp'
  rw [← a1, ← b1]; exact h2' a ha b hb (by rw [a2, b2, ee])
 ·rw [dd_new_snoc hm]
  by_cases hm2 : z.2 ∈ zs.map Prod.snd
  ·rw [dd_mem_snoc hm2]
   refine ⟨by simp; omega, fun he => ?_⟩
   simp at he; omega
  ·rw [dd_new_snoc hm2]
   refine ⟨by simp; omega, fun he p hp p' hp' ee => ?_⟩
   have h2' := h2 (by simpa using he)
   rcases List.mem_append.1 hp with gp | gp
   ·rcases List.mem_append.1 hp' with gp' | gp'
    ·exact h2' p gp p' gp' ee
    ·have e := List.mem_singleton.1 gp'
     exact (hm2 (List.mem_map.2 ⟨p, gp, by rw [ee, e]⟩)).elim
   ·have e := List.mem_singleton.1 gp
    rcases List.mem_append.1 hp' with gp' | gp'
    ·exact (hm2 (List.mem_map.2 ⟨p', gp', by rw [← ee, e]⟩)).elim
    ·rw [e, List.mem_singleton.1 gp']
theorem zip_ends : ∀ {l : List α} {m : List β}, l.length = m.length → (l.zip m).map Prod.fst = l ∧ (l.zip m).map Prod.snd = m
 | [], [], _ => ⟨rfl, rfl⟩
 | a :: l, b :: m, h => by
  obtain ⟨h1, h2⟩ := zip_ends (l := l) (m := m) (by simpa using h)
  simp [h1, h2]
theorem zip_get {l : List α} {m : List β} (h : l.length = m.length) {p : α × β} (hp : p ∈ l.zip m) : ∃ i : Nat, l[i]? = some p.1 ∧ m[i]? = some p.2 := by
 obtain ⟨i, hi⟩ := List.getElem?_of_mem hp
 refine ⟨i, ?_, ?_⟩
 ·have := congrArg (Option.map Prod.fst) hi
  rw [← List.getElem?_map, (zip_ends h).1] at this; simpa using this
 ·have := congrArg (Option.map Prod.snd) hi
  rw [← List.getElem?_map, (zip_ends h).2] at this; simpa using this
theorem nrm_congr {l : List α} {m : List β} (hl : l.length = m.length) (h : ∀ (i j : Nat) (a b : α) (a' b' : β), l[i]? = some a → l[j]? = some b → m[i]? = some a' → m[j]? = some b' → (a = b ↔ a' = b')) : nrm l = nrm m ∧ (dd l).length = (dd m).length := by
 have h0 := nrm_pairs (l.zip m) fun p hp q hq => by
  obtain ⟨i, a1, a2⟩ := zip_get hl hp
  obtain ⟨j, b1, b2⟩ := zip_get hl hq
  exact h i j _ _ _ _ a1 b1 a2 b2
 rw [(zip_ends hl).1, (zip_ends hl).2] at h0
 refine ⟨?_, h0.1⟩
 apply List.ext_getElem?
 intro i
 by_cases hi : i < l.length
 ·have hi2 : i < m.length := by omega
  rw [nrm_get (List.getElem?_eq_getElem hi), nrm_get (List.getElem?_eq_getElem hi2)]
  have : (l[i], m[i]) ∈ l.zip m := by
   apply List.mem_of_getElem? (i := i)
   rw [List.getElem?_zip_eq_some]
   exact ⟨List.getElem?_eq_getElem hi, List.getElem?_eq_getElem hi2⟩
  exact congrArg some (h0.2 _ this)
 ·rw [List.getElem?_eq_none (by rw [nrm_length]; omega), List.getElem?_eq_none (by rw [nrm_length]; omega)]
end
def dif (d : DFA) : Nat → Nat → Nat → Bool
 | 0, s, t => finN d s != finN d t
 | k + 1, s, t => dif d k s t || (List.range (letN d)).any fun x => dif d k (toN d s x) (toN d t x)
theorem dif_iff (d : DFA) : ∀ k s t, dif d k s t = true ↔ ∃ u, Wd d u ∧ u.length ≤ k ∧ dst d s t u
 | 0, s, t => by
  simp only [dif, bne_iff_ne]
  constructor
  ·exact fun h => ⟨[], fun x hx => by simp at hx, Nat.le_refl _, h⟩
  ·rintro ⟨u, _, hl, h⟩
   have : u = [] := List.eq_nil_of_length_eq_zero (by omega)
   subst this; exact h
 | k + 1, s, t => by
  simp only [dif, Bool.or_eq_true, List.any_eq_true, List.mem_range, dif_iff d k]
  constructor
  ·rintro (⟨u, h1, h2, h3⟩ | ⟨x, hx, u, h1, h2, h3⟩)
   ·exact ⟨u, h1, by omega, h3⟩
   ·refine ⟨x :: u, fun y hy => ?_, by simp; omega, h3⟩
    rcases List.mem_cons.1 hy with rfl | hy
    ·exact hx
    ·exact h1 y hy
  ·rintro ⟨u, h1, h2, h3⟩
   cases u with
   | nil => exact .inl ⟨[], h1, by simp, h3⟩
   | cons x u => exact .inr ⟨x, h1 x (by simp), u, fun y hy => h1 y (by simp [hy]), by simpa using h2, h3⟩
theorem toN_get {d : DFA} (hv : Val d) {s x : Nat} (hs : s < d.next.length) (hx : x < letN d) : toN d s x < d.next.length := (hv.toN_lt hs hx).1
theorem keyD_iff {d : DFA} (hv : Val d) {cs : List Nat} (hcl : cs.length = d.next.length) {s t : Nat} (hs : s < d.next.length) (ht : t < d.next.length) :
  keyD d cs s = keyD d cs t ↔ cs.getD s 0 = cs.getD t 0 ∧ ∀ x, x < letN d → cs.getD (toN d s x) 0 = cs.getD (toN d t x) 0 := by
 have hls : (d.next.getD s []).length = letN d := by simp [hs]; exact hv.len _ (List.getElem_mem hs)
 have hlt : (d.next.getD t []).length = letN d := by simp [ht]; exact hv.len _ (List.getElem_mem ht)
 have row : ∀ s, (d.next.getD s []).length = letN d → ∀ x, x < letN d → (rowK cs (d.next.getD s []))[x]? = some (cs.getD (toN d s x) 0) := by
  intro s hl x hx
  have hx' : x < (d.next.getD s []).length := by omega
  have e : (d.next.getD s []).getD x 0 = (d.next.getD s [])[x] := by rw [List.getD_eq_getElem?_getD, List.getElem?_eq_getElem hx']; rfl
  rw [rowK, List.getElem?_map, List.getElem?_eq_getElem hx', toN, e]
  rfl
 constructor
 ·intro h
  obtain ⟨h1, h2⟩ := keyK_inj h
  refine ⟨h1, fun x hx => ?_⟩
  have a := row s hls x hx
  rw [h2, row t hlt x hx] at a
  exact (Option.some.inj a).symm
 ·rintro ⟨h1, h2⟩
  unfold keyD
  rw [h1]
  congr 1
  apply List.ext_getElem?
  intro x
  by_cases hx : x < letN d
  ·rw [row s hls x hx, row t hlt x hx, h2 x hx]
  ·rw [List.getElem?_eq_none (by rw [rowK_length]; omega), List.getElem?_eq_none (by rw [rowK_length]; omega)]
theorem refineF_nrm (d : DFA) (cs : List Nat) : refineF d cs = nrm (keysD d cs) := rfl
theorem keysD_get {d : DFA} {cs : List Nat} {s : Nat} (hs : s < d.next.length) : (keysD d cs)[s]? = some (keyD d cs s) := by simp [keysD, hs]
theorem beginF_get {d : DFA} {s : Nat} (hs : s < d.next.length) : (beginF d)[s]? = some (if finN d s ≠ finN d 0 then 1 else 0) := by
 simp [beginF, hs, finN]
theorem getD_of {l : List Nat} {i a : Nat} (h : l[i]? = some a) : l.getD i 0 = a := by rw [List.getD_eq_getElem?_getD, h]; rfl
theorem itF_iff {d : DFA} (hv : Val d) : ∀ k s t, s < d.next.length → t < d.next.length → ((itF d k).getD s 0 = (itF d k).getD t 0 ↔ dif d k s t = false)
 | 0, s, t, hs, ht => by
  rw [itF, getD_of (beginF_get hs), getD_of (beginF_get ht), dif]
  cases finN d s <;> cases finN d t <;> cases finN d 0 <;> simp
 | k + 1, s, t, hs, ht => by
  have ih := itF_iff hv k
  rw [itF, refineF_nrm]
  have h1 := nrm_inj (keysD_get (cs := itF d k) hs) (keysD_get (cs := itF d k) ht)
  have e1 : (nrm (keysD d (itF d k))).getD s 0 = (nrm (keysD d (itF d k))).getD t 0 ↔ (nrm (keysD d (itF d k)))[s]? = (nrm (keysD d (itF d k)))[t]? := by
   rw [nrm_get (keysD_get hs), nrm_get (keysD_get ht), getD_of (nrm_get (keysD_get hs)), getD_of (nrm_get (keysD_get ht))]
   simp
  rw [e1, h1, keyD_iff hv (itF_length d k) hs ht, ih s t hs ht, dif, Bool.or_eq_false_iff]
  refine and_congr Iff.rfl ?_
  rw [List.any_eq_false]
  constructor
  ·intro h x hx
   have hx' := List.mem_range.1 hx
   rw [Bool.not_eq_true, ← ih _ _ (toN_get hv hs hx') (toN_get hv ht hx')]
   exact h x hx'
  ·intro h x hx
   rw [ih _ _ (toN_get hv hs hx) (toN_get hv ht hx), ← Bool.not_eq_true]
   exact h x (List.mem_range.2 hx)
end Go.Lx


namespace Go.Lx
section
variable {α : Type} [DecidableEq α]
theorem nrm_nrm (l : List α) : nrm (nrm l) = nrm l := by
 refine (nrm_congr (by rw [nrm_length]) ?_).1
 intro i j a b a' b' hi hj hi' hj'
 have := nrm_inj hi' hj'
 rw [hi, hj] at this
 simpa using this
def first (p : Nat → Bool) : Nat → Nat
 | 0 => 0
 | n + 1 => if first p n < n then first p n else if p n then n else n + 1
end
theorem foldl_add01 : ∀ (l : List Nat), (∀ x ∈ l, x ≤ 1) → l.foldl add [0, 1] = [0, 1] ∧ (l.foldl add [0] = [0] ∧ 1 ∉ l ∨ l.foldl add [0] = [0, 1] ∧ 1 ∈ l)
 | [], _ => by simp
 | x :: l, h => by
  obtain ⟨h1, h2⟩ := foldl_add01 l fun y hy => h y (by simp [hy])
  have hx := h x (by simp)
  have : x = 0 ∨ x = 1 := by omega
  rcases this with rfl | rfl
  ·refine ⟨?_, ?_⟩
   ·rw [List.foldl_cons, show add [0, 1] 0 = [0, 1] by decide]; exact h1
   ·rw [List.foldl_cons, show add [0] 0 = [0] by decide]
    rcases h2 with ⟨a, b⟩ | ⟨a, b⟩
    ·exact .inl ⟨a, by simp [b]⟩
    ·exact .inr ⟨a, by simp [b]⟩
  ·refine ⟨?_, ?_⟩
   ·rw [List.foldl_cons, show add [0, 1] 1 = [0, 1] by decide]; exact h1
   ·rw [List.foldl_cons, show add [0] 1 = [0, 1] by decide]
    exact .inr ⟨h1, by simp⟩
theorem nrm01 {l : List Nat} (h0 : l.headD 0 = 0) (h : ∀ x ∈ l, x ≤ 1) : nrm l = l := by
 cases l with
 | nil => rfl
 | cons a l =>
  simp at h0
  subst h0
  have e : dd (0 :: l) = l.foldl add [0] := by simp [dd, add]
  have h2 := (foldl_add01 l fun y hy => h y (by simp [hy])).2
  rw [nrm, e]
  conv => rhs; rw [← List.map_id (0 :: l)]
  apply List.map_congr_left
  intro x hx
  have hx1 := h x hx
  have : x = 0 ∨ x = 1 := by omega
  rcases this with rfl | rfl
  ·rcases h2 with ⟨a, b⟩ | ⟨a, b⟩ <;> rw [a] <;> decide
  ·rcases h2 with ⟨a, b⟩ | ⟨a, b⟩
   ·simp at hx; exact absurd hx b
   ·rw [a]; decide
theorem itF_can (d : DFA) : ∀ k, nrm (itF d k) = itF d k
 | 0 => by
  refine nrm01 ?_ ?_
  ·rw [itF]
   cases e : (beginF d) with
   | nil => rfl
   | cons a l =>
    have : (beginF d)[0]? = some a := by rw [e]; rfl
    have hn : 0 < d.next.length := by
     have : (beginF d).length = d.next.length := by simp [beginF]
     rw [e] at this; simp at this; omega
    rw [beginF_get hn] at this
    simpa using this.symm
  ·intro x hx
   obtain ⟨s, _, rfl⟩ := List.mem_map.1 hx
   split <;> omega
 | k + 1 => by rw [itF, refineF_nrm, nrm_nrm]
theorem dif_mono {d : DFA} {k m s t : Nat} (h : k ≤ m) (hd : dif d k s t = true) : dif d m s t = true := by
 obtain ⟨u, h1, h2, h3⟩ := (dif_iff d k s t).1 hd
 exact (dif_iff d m s t).2 ⟨u, h1, by omega, h3⟩
theorem itF_get {d : DFA} {k s : Nat} (hs : s < d.next.length) : (itF d k)[s]? = some ((itF d k).getD s 0) := by
 have : s < (itF d k).length := by rw [itF_length]; exact hs
 rw [List.getD_eq_getElem?_getD, List.getElem?_eq_getElem this]; rfl
def clsN (d : DFA) (k : Nat) : Nat := (dd (itF d k)).length
theorem clsN_step {d : DFA} (hv : Val d) (k : Nat) : clsN d k ≤ clsN d (k + 1) ∧ (clsN d k = clsN d (k + 1) → itF d (k + 1) = itF d k) := by
 have hl : (itF d (k + 1)).length = (itF d k).length := by rw [itF_length, itF_length]
 have at_ : ∀ p ∈ (itF d (k + 1)).zip (itF d k), ∃ s, s < d.next.length ∧ (itF d (k + 1)).getD s 0 = p.1 ∧ (itF d k).getD s 0 = p.2 := fun p hp => by
  obtain ⟨i, a1, a2⟩ := zip_get hl hp
  refine ⟨i, ?_, getD_of a1, getD_of a2⟩
  have := (List.getElem?_eq_some_iff.1 a2).1
  rwa [itF_length] at this
 have h := dd_finer ((itF d (k + 1)).zip (itF d k)) fun p hp q hq e => by
  obtain ⟨s, hs, a1, a2⟩ := at_ p hp
  obtain ⟨t, ht, b1, b2⟩ := at_ q hq
  rw [← a1, ← b1, itF_iff hv _ s t hs ht] at e
  rw [← a2, ← b2, itF_iff hv _ s t hs ht, ← Bool.not_eq_true]
  intro hh
  rw [dif_mono (Nat.le_succ k) hh] at e; cases e
 rw [(zip_ends hl).1, (zip_ends hl).2] at h
 refine ⟨h.1, fun e => ?_⟩
 have h2 := h.2 e
 rw [← itF_can d (k + 1), ← itF_can d k]
 refine (nrm_congr hl ?_).1
 intro i j a b a' b' hi hj hi' hj'
 have hm : ∀ {i a a'}, (itF d (k + 1))[i]? = some a → (itF d k)[i]? = some a' → (a, a') ∈ (itF d (k + 1)).zip (itF d k) := fun {i a a'} x y => by
  apply List.mem_of_getElem? (i := i)
  rw [List.getElem?_zip_eq_some]
  exact ⟨x, y⟩
 refine ⟨fun e => ?_, h2 _ (hm hi hi') _ (hm hj hj')⟩
 have hin : i < d.next.length := by have := (List.getElem?_eq_some_iff.1 hi').1; rwa [itF_length] at this
 have hjn : j < d.next.length := by have := (List.getElem?_eq_some_iff.1 hj').1; rwa [itF_length] at this
 rw [← getD_of hi, ← getD_of hj, itF_iff hv _ i j hin hjn] at e
 rw [← getD_of hi', ← getD_of hj', itF_iff hv _ i j hin hjn, ← Bool.not_eq_true]
 intro hh
 rw [dif_mono (Nat.le_succ k) hh] at e; cases e
theorem clsN_le (d : DFA) (k : Nat) : clsN d k ≤ d.next.length := by
 have := dd_length (itF d k)
 rw [itF_length] at this; exact this
theorem clsN_pos {d : DFA} (hv : Val d) (k : Nat) : 0 < clsN d k := by
 have h : (itF d k).getD 0 0 ∈ dd (itF d k) := mem_dd.2 (List.mem_of_getElem? (itF_get hv.n0))
 exact List.length_pos_of_mem h
theorem itF_grow {d : DFA} (hv : Val d) : ∀ k, (∃ j, j < k ∧ itF d (j + 1) = itF d j) ∨ k + 1 ≤ clsN d k
 | 0 => .inr (clsN_pos hv 0)
 | k + 1 => by
  rcases itF_grow hv k with ⟨j, hj, h⟩ | h
  ·exact .inl ⟨j, by omega, h⟩
  ·obtain ⟨h1, h2⟩ := clsN_step hv k
   by_cases e : clsN d k = clsN d (k + 1)
   ·exact .inl ⟨k, by omega, h2 e⟩
   ·exact .inr (by omega)
theorem itF_stab {d : DFA} (hv : Val d) : ∀ m, d.next.length ≤ m → itF d m = itF d d.next.length := by
 intro m hm
 rcases itF_grow hv d.next.length with ⟨j, hj, h⟩ | h
 ·have hs : refineF d (itF d j) = itF d j := by rw [← itF]; exact h
  rw [itF_stable hs m (by omega), itF_stable hs d.next.length (by omega)]
 ·have := clsN_le d d.next.length; omega
theorem cls_iff {d : DFA} (hv : Val d) {s t : Nat} (hs : s < d.next.length) (ht : t < d.next.length) :
  (itF d d.next.length).getD s 0 = (itF d d.next.length).getD t 0 ↔ ∀ u, Wd d u → ¬ dst d s t u := by
 constructor
 ·intro h u hu hd
  have h2 : (itF d (max u.length d.next.length)).getD s 0 = (itF d (max u.length d.next.length)).getD t 0 := by rw [itF_stab hv _ (by omega)]; exact h
  rw [itF_iff hv _ s t hs ht, ← Bool.not_eq_true] at h2
  exact h2 ((dif_iff d _ s t).2 ⟨u, hu, by omega, hd⟩)
 ·intro h
  rw [itF_iff hv _ s t hs ht, ← Bool.not_eq_true]
  intro hh
  obtain ⟨u, h1, _, h3⟩ := (dif_iff d _ s t).1 hh
  exact h u h1 h3
theorem quoN_cls {d : DFA} {α : Type} [DecidableEq α] {l : List α} {cs : List Nat} (hl : l.length = d.next.length) (hcs : cs = nrm l) : ∀ k, k ≤ d.next.length → (quoN d cs k).1.length = (dd (l.take k)).length
 | 0, _ => by simp [quoN, dd]
 | k + 1, hk => by
  have hk' : k < l.length := by omega
  have ih := quoN_cls hl hcs k (by omega)
  have hg := List.getElem?_eq_getElem hk'
  have hc : cs.getD k 0 = ix l[k] (dd l) := by rw [hcs]; exact getD_of (nrm_get hg)
  have hp : dd (l.take k) <+: dd l := by
   conv => rhs; rw [← List.take_append_drop k l]
   rw [dd_append]; exact foldl_prefix _ _
  rw [quoN, ih, hc, List.take_succ_eq_append_getElem hk']
  by_cases hm : l[k] ∈ l.take k
  ·rw [dd_mem_snoc hm, ix_prefix hp (mem_dd.2 hm), if_pos (ix_lt (mem_dd.2 hm)), ih]
  ·have hp2 : dd (l.take k) ++ [l[k]] <+: dd l := by
    rw [← dd_new_snoc hm, ← List.take_succ_eq_append_getElem hk']
    conv => rhs; rw [← List.take_append_drop (k + 1) l]
    rw [dd_append]; exact foldl_prefix _ _
   have e : ix l[k] (dd l) = (dd (l.take k)).length := by
    rw [ix_prefix hp2 (by simp), ix_append_right (fun hh => hm (mem_dd.1 hh))]; simp [ix]
   rw [dd_new_snoc hm, e, if_neg (Nat.lt_irrefl _)]
   simp [ih]
theorem quoN_rows {d : DFA} (cs : List Nat) : ∀ k, ∀ r ∈ (quoN d cs k).1, ∃ s, s < k ∧ r = (rowK cs (d.next.getD s [])).map fun c : Nat => (c : Int)
 | 0, r, h => by simp [quoN] at h
 | k + 1, r, h => by
  rw [quoN] at h
  split at h
  ·obtain ⟨s, hs, e⟩ := quoN_rows cs k r h; exact ⟨s, by omega, e⟩
  ·rcases List.mem_append.1 h with h | h
   ·obtain ⟨s, hs, e⟩ := quoN_rows cs k r h; exact ⟨s, by omega, e⟩
   ·exact ⟨k, by omega, List.mem_singleton.1 h⟩
theorem quo_len {d : DFA} {cs : List Nat} (hl : cs.length = d.next.length) (hc : nrm cs = cs) : (quo d cs).next.length = (dd cs).length := by
 show (quoN d cs d.next.length).1.length = _
 rw [quoN_cls (l := cs) hl hc.symm _ (Nat.le_refl _), List.take_of_length_le (by omega)]
theorem can_lt {cs : List Nat} (hc : nrm cs = cs) {i c : Nat} (h : cs[i]? = some c) : c < (dd cs).length := by
 have h2 := nrm_get h
 rw [hc, h] at h2
 have := ix_lt (mem_dd.2 (List.mem_of_getElem? h))
 have e := Option.some.inj h2
 omega
theorem quo_val {d : DFA} (hv : Val d) {cs : List Nat} (hl : cs.length = d.next.length) (hc : nrm cs = cs) : Val (quo d cs) := by
 have hq := quo_len hl hc
 have hlt : ∀ i, i < d.next.length → cs.getD i 0 < (dd cs).length := fun i hi => by
  have hi' : i < cs.length := by omega
  have := List.getElem?_eq_getElem hi'
  rw [getD_of this]; exact can_lt hc this
 have h1 := (quoN_len d cs d.next.length)
 refine ⟨hv.v0, hv.v6, ?_, ?_, ?_, ?_, ?_, ?_⟩
 ·rw [hq]; have := hlt 0 hv.n0; omega
 ·exact h1.1.symm
 ·exact Int.natCast_nonneg _
 ·rw [hq]
  show ((cs.getD d.start.toNat 0 : Nat) : Int) < _
  have := hlt d.start.toNat (by have := hv.s0; have := hv.s1; omega)
  omega
 ·intro r hr
  obtain ⟨s, hs, rfl⟩ := quoN_rows cs _ r hr
  rw [List.length_map, rowK_length]
  simp [hs]
  exact hv.len _ (List.getElem_mem hs)
 ·intro r hr x hx
  rw [hq]
  obtain ⟨s, hs, rfl⟩ := quoN_rows cs _ r hr
  obtain ⟨c, hc', rfl⟩ := List.mem_map.1 hx
  refine ⟨Int.natCast_nonneg _, ?_⟩
  obtain ⟨to, hto, rfl⟩ := List.mem_map.1 hc'
  simp [hs] at hto
  have := hv.ok _ (List.getElem_mem hs) to hto
  have := hlt to.toNat (by omega)
  omega
theorem quo_valid {d : DFA} (hv : Valid d) {cs : List Nat} (hl : cs.length = d.next.length) (hc : nrm cs = cs) : Valid (quo d cs) :=
 ⟨quo_val hv hl hc, by have := (quoN_len d cs d.next.length).2; have := hv.n4; show (quoN d cs d.next.length).1.length ≤ _; omega⟩
theorem quo_itV {d : DFA} (hv : Val d) (k : Nat) : Val (quo d (itF d k)) ∧ (quo d (itF d k)).next.length ≤ d.next.length :=
 ⟨quo_val hv (itF_length d k) (itF_can d k), (quoN_len d _ _).2⟩
theorem quo_itF {d : DFA} (hv : Valid d) (k : Nat) : Valid (quo d (itF d k)) ∧ (quo d (itF d k)).next.length ≤ d.next.length :=
 ⟨quo_valid hv (itF_length d k) (itF_can d k), (quoN_len d _ _).2⟩
end Go.Lx


namespace Go.Lx
open Go.RowKit
structure BRec where
 b : Option Addr
 c : Nat
 xs : List Bool
def BRec.val (q : BRec) : Value := .slice q.b q.xs.length q.c
def BRec.itm (E : TypeId) (q : BRec) : Item := rowI q.b q.c E 1 (bools q.xs)
abbrev bvals (qs : List BRec) : List Value := qs.map BRec.val
abbrev bitms (E : TypeId) (qs : List BRec) : List Item := qs.map (BRec.itm E)
def difRow (d : DFA) (k s : Nat) : List Bool := (List.range d.next.length).map (dif d k s)
def MatOk (d : DFA) (k m : Nat) (qs : List BRec) : Prop := qs.map BRec.xs = (List.range m).map (difRow d k)
theorem difRow_length (d : DFA) (k s : Nat) : (difRow d k s).length = d.next.length := by simp [difRow]
theorem MatOk.len {d : DFA} {k m : Nat} {qs : List BRec} (h : MatOk d k m qs) : qs.length = m := by
 have := congrArg List.length h
 simpa using this
theorem MatOk.get {d : DFA} {k m : Nat} {qs : List BRec} (h : MatOk d k m qs) {a : Nat} (ha : a < m) :
  ∃ q, q ∈ qs ∧ (bvals qs)[a]? = some (.slice q.b d.next.length q.c) ∧ (bools q.xs).length = d.next.length ∧ ∀ t, t < d.next.length → (bools q.xs)[t]? = some (.bool (dif d k a t)) := by
 have hl := h.len
 have ha' : a < qs.length := by omega
 have e : qs[a].xs = difRow d k a := by
  have := congrArg (fun l => l[a]?) h
  simp only [List.getElem?_map, List.getElem?_eq_getElem ha', Option.map_some, List.getElem?_range ha] at this
  exact Option.some.inj this
 refine ⟨qs[a], List.getElem_mem ha', ?_, ?_, ?_⟩
 ·rw [List.getElem?_map, List.getElem?_eq_getElem ha', Option.map_some, BRec.val, e, difRow_length]
 ·rw [List.length_map, e, difRow_length]
 ·intro t ht
  rw [List.getElem?_map, e, difRow, List.getElem?_map, List.getElem?_range ht]; rfl
theorem MatOk.snoc {d : DFA} {k m : Nat} {qs : List BRec} (h : MatOk d k m qs) {b : Option Addr} {c : Nat} : MatOk d k (m + 1) (qs ++ [⟨b, c, difRow d k m⟩]) := by
 unfold MatOk at *
 rw [List.map_append, h, List.range_succ, List.map_append]; rfl
theorem hole_set {l : List Value} {s n : Nat} {z v : Value} (hl : l.length = s) (hs : s < n) : (l ++ List.replicate (n - s) z).set s v = l ++ v :: List.replicate (n - (s + 1)) z := by
 rw [List.set_append_right _ _ (by omega), hl, Nat.sub_self, show n - s = (n - (s + 1)) + 1 by omega, List.replicate_succ]; rfl
theorem hole_get {l r : List Value} {s : Nat} {v : Value} (hl : l.length = s) : (l ++ v :: r)[s]? = some v := by
 rw [List.getElem?_append_right (by omega), hl, Nat.sub_self]; rfl
end Go.Lx


namespace Go.Lx
open Go.RowKit
theorem foldl_add_ok {n : Nat} : ∀ (l ks : List Nat), ks.Nodup → (∀ k ∈ ks, k < n) → (∀ k ∈ l, k < n) → (l.foldl add ks).Nodup ∧ ∀ k ∈ l.foldl add ks, k < n
 | [], ks, h1, h2, _ => ⟨h1, h2⟩
 | a :: l, ks, h1, h2, h3 => foldl_add_ok l (add ks a) (add_nodup h1) (fun k hk => (mem_add.1 hk).elim (h2 k) fun e => e ▸ h3 a (by simp)) fun k hk => h3 k (by simp [hk])
theorem sucs_lt {d : DFA} (hv : Val d) {o : Nat} (ho : o < d.next.length) : ∀ t ∈ sucs d o, t < d.next.length := fun t ht => by
 obtain ⟨x, hx, rfl⟩ := List.mem_map.1 ht
 exact (hv.toN_lt ho (List.mem_range.1 hx)).1
theorem bfsN_ok {d : DFA} (hv : Val d) : ∀ i, (bfsN d i).Nodup ∧ ∀ o ∈ bfsN d i, o < d.next.length
 | 0 => by
  refine ⟨by simp [bfsN], fun o ho => ?_⟩
  simp only [bfsN, List.mem_singleton] at ho
  have := hv.s0; have := hv.s1; omega
 | i + 1 => by
  obtain ⟨h1, h2⟩ := bfsN_ok hv i
  rw [bfsN]
  split
  ·rename_i hi
   refine foldl_add_ok _ _ h1 h2 (sucs_lt hv (h2 _ ?_))
   rw [List.getD_eq_getElem?_getD, List.getElem?_eq_getElem hi]
   exact List.getElem_mem hi
  ·exact ⟨h1, h2⟩
theorem bfsN_len {d : DFA} (hv : Val d) (i : Nat) : (bfsN d i).length ≤ d.next.length := nodup_bound (bfsN_ok hv i).1 (bfsN_ok hv i).2
theorem bfsN_succ {d : DFA} {i o : Nat} (h : (bfsN d i)[i]? = some o) : bfsN d (i + 1) = (sucs d o).foldl add (bfsN d i) := by
 have hi := (List.getElem?_eq_some_iff.1 h).1
 rw [bfsN, if_pos hi, List.getD_eq_getElem?_getD, h]; rfl
def bfsM (d : DFA) (i o x : Nat) : List Nat := ((List.range x).map (toN d o)).foldl add (bfsN d i)
theorem bfsM_step (d : DFA) (i o x : Nat) : bfsM d i o (x + 1) = add (bfsM d i o x) (toN d o x) := foldl_add_snoc _ _ _
theorem bfsM_len {d : DFA} (hv : Val d) {i o x : Nat} (ho : o < d.next.length) (hx : x ≤ 2 ^ d.vars.toNat) : (bfsM d i o x).length ≤ d.next.length ∧ (bfsN d i).length ≤ (bfsM d i o x).length := by
 obtain ⟨h1, h2⟩ := bfsN_ok hv i
 obtain ⟨h3, h4⟩ := foldl_add_ok ((List.range x).map (toN d o)) _ h1 h2 (fun t ht => by
  obtain ⟨y, hy, rfl⟩ := List.mem_map.1 ht
  exact (hv.toN_lt ho (by have := List.mem_range.1 hy; omega)).1)
 exact ⟨nodup_bound h3 h4, (foldl_prefix _ _).length_le⟩
theorem order_len {d : DFA} (hv : Val d) : (order d).length ≤ d.next.length := bfsN_len hv _
theorem order_stop {d : DFA} (hv : Val d) : ∃ N, N ≤ d.next.length ∧ (bfsN d N).length = N ∧ (∀ j, j < N → j < (bfsN d j).length) := by
 have step : ∀ k, (∃ N, N ≤ k ∧ (bfsN d N).length = N ∧ ∀ j, j < N → j < (bfsN d j).length) ∨ ((∀ j, j < k → j < (bfsN d j).length) ∧ k ≤ (bfsN d k).length) := by
  intro k
  induction k with
  | zero => exact .inr ⟨fun j hj => absurd hj (by omega), Nat.zero_le _⟩
  | succ k ih =>
   rcases ih with ⟨N, h1, h2⟩ | ⟨h1, h2⟩
   ·exact .inl ⟨N, by omega, h2⟩
   ·by_cases e : (bfsN d k).length = k
    ·exact .inl ⟨k, by omega, e, h1⟩
    ·refine .inr ⟨fun j hj => ?_, ?_⟩
     ·by_cases ej : j = k
      ·subst ej; omega
      ·exact h1 j (by omega)
     ·have hi : k < (bfsN d k).length := by omega
      rw [bfsN_succ (List.getElem?_eq_getElem hi)]
      have := (foldl_prefix (sucs d (bfsN d k)[k]) (bfsN d k)).length_le
      omega
 rcases step d.next.length with h | ⟨h1, h2⟩
 ·exact h
 ·exact ⟨d.next.length, Nat.le_refl _, by have := bfsN_len hv d.next.length; omega, h1⟩
theorem bfsN_prefix (d : DFA) : ∀ (i m : Nat), i ≤ m → bfsN d i <+: bfsN d m := by
 intro i m h
 induction h with
 | refl => exact List.prefix_refl _
 | @step m _ ih =>
  refine ih.trans ?_
  rw [bfsN]
  split
  ·exact foldl_prefix _ _
  ·exact List.prefix_refl _
theorem order_closed {d : DFA} (hv : Val d) : ∀ o ∈ order d, ∀ t ∈ sucs d o, t ∈ order d := by
 obtain ⟨N, hN, hl, hj⟩ := order_stop hv
 have e := order_eq hl hN
 intro o ho t ht
 rw [e] at ho ⊢
 obtain ⟨j, hjo⟩ := List.getElem?_of_mem ho
 have hjl := (List.getElem?_eq_some_iff.1 hjo).1
 have hjj := hj j (by omega)
 have hp := bfsN_prefix d j N (by omega)
 have hjo' : (bfsN d j)[j]? = some o := by
  obtain ⟨r, hr⟩ := hp
  rw [← hr, List.getElem?_append_left hjj] at hjo
  exact hjo
 have hp2 := bfsN_prefix d (j + 1) N (by omega)
 refine hp2.subset ?_
 rw [bfsN_succ hjo']
 exact (mem_foldl_add _ _).2 (.inr ht)
theorem sucs_length (d : DFA) (o : Nat) : (sucs d o).length = 2 ^ d.vars.toNat := by simp [sucs]
theorem sucs_get {d : DFA} {o x : Nat} (h : x < 2 ^ d.vars.toNat) : (sucs d o)[x]? = some (toN d o x) := by simp [sucs, h]
end Go.Lx


namespace Go.Lx
theorem dif_stab {d : DFA} (hv : Val d) {s t : Nat} (hs : s < d.next.length) (ht : t < d.next.length) (m : Nat) (h : ∀ j, j ≤ d.next.length → dif d j s t = false) : dif d m s t = false := by
 by_cases hm : m ≤ d.next.length
 ·exact h m hm
 ·have h1 := (itF_iff hv d.next.length s t hs ht).2 (h _ (Nat.le_refl _))
  rw [← itF_iff hv m s t hs ht, itF_stab hv m (by omega)]
  exact h1
theorem tell_none {d : DFA} (hv : Val d) {s t : Nat} (hs : s < d.next.length) (ht : t < d.next.length) (h : ∀ j, j ≤ d.next.length → dif d j s t = false) : Tell d s t none := by
 intro u hu hd
 have := dif_stab hv hs ht u.length h
 rw [(dif_iff d u.length s t).2 ⟨u, hu, Nat.le_refl _, hd⟩] at this
 cases this
end Go.Lx


namespace Go.Lx
open Go.RowKit
theorem CallT.none {P : Program} {base : World} {f : FuncId} {args : List Value} {R : Value → List Item → Prop} (h : CallT P base f args [] R) : CallT P base f args [] (fun v O' => O' = [] ∧ ∃ O2, R v O2) :=
 fun w M hI => (h w M hI).mono fun _ _ ⟨v, O', h1, h2, h3⟩ => ⟨v, [], h1, by simpa using h2.subp (Sub.of (List.sublist_append_right O' M)), rfl, O', h3⟩
def minD (d : DFA) : DFA := renum (quo d (itF d d.next.length))
def eD (d : DFA) (s t : Int) : Nat := if checkD d ≠ 0 then checkD d else if s < 0 ∨ t < 0 ∨ (d.next.length : Int) ≤ s ∨ (d.next.length : Int) ≤ t then 8 else 0
def TellA (d : DFA) (s t : Int) (res : Option (List Nat)) : Prop := if eD d s t = 0 then Tell d s.toNat t.toNat res else res = none
theorem eD_zero {d : DFA} {s t : Int} : eD d s t = 0 ↔ Valid d ∧ 0 ≤ s ∧ s < (d.next.length : Int) ∧ 0 ≤ t ∧ t < (d.next.length : Int) := by
 unfold eD
 by_cases h : checkD d = 0
 ·rw [if_neg (by simp [h])]
  by_cases h2 : s < 0 ∨ t < 0 ∨ (d.next.length : Int) ≤ s ∨ (d.next.length : Int) ≤ t
  ·rw [if_pos h2]; exact ⟨fun h => absurd h (by decide), fun h => by omega⟩
  ·rw [if_neg h2]; exact ⟨fun _ => ⟨checkD_zero.1 h, by omega, by omega, by omega, by omega⟩, fun _ => rfl⟩
 ·rw [if_pos h]; exact ⟨fun e => absurd e h, fun hh => absurd (checkD_zero.2 hh.1) h⟩
theorem TellA.unique {d : DFA} {s t : Int} {a b : Option (List Nat)} (ha : TellA d s t a) (hb : TellA d s t b) : a = b := by
 unfold TellA at *
 by_cases h : eD d s t = 0
 ·rw [if_pos h] at ha hb
  exact Tell.unique (eD_zero.1 h).1 ha hb
 ·rw [if_neg h] at ha hb
  rw [ha, hb]
theorem TellA.none {d : DFA} {s t : Int} {a : Option (List Nat)} (h : eD d s t ≠ 0) (ha : TellA d s t a) : a = .none := by
 unfold TellA at ha; rwa [if_neg h] at ha
end Go.Lx


namespace Go.Lx
open Go.RowKit
structure DRec where
 d : DFA
 nb : Option Addr
 fb : Option Addr
 nc : Nat
 fc : Nat
 vs : List Value
def DRec.cells (r : DRec) : List Value := dfaCells r.d r.nb r.nc r.fb r.fc
end Go.Lx
namespace Go.Lx
end Go.Lx
namespace Go.Lx
theorem Tell.len {d : DFA} (hv : Valid d) {s t : Nat} (hs : s < d.next.length) (ht : t < d.next.length) {u : List Nat} (h : Tell d s t (some u)) : u.length ≤ d.next.length := by
 have h : IsLeast d s t u := h
 by_cases hd : ∀ j, j ≤ d.next.length → dif d j s t = false
 ·exact absurd h.dst (tell_none hv hs ht hd u h.wd)
 ·obtain ⟨j, hj⟩ := Classical.not_forall.1 hd
  simp only [Classical.not_imp, Bool.not_eq_false] at hj
  obtain ⟨w, h1, h2, h3⟩ := (dif_iff d j s t).1 hj.2
  have := code_len u w (hv.wd64 h.wd) (hv.wd64 h1) (h.le w h1 h3)
  omega
theorem TellA.len {d : DFA} (hN : Valid d → d.next.length < 10000) {s t : Int} {res : Option (List Nat)} (h : TellA d s t res) : (res.getD []).length < 9223372036854775807 := by
 unfold TellA at h
 by_cases h0 : eD d s t = 0
 ·rw [if_pos h0] at h
  obtain ⟨hv, h1, h2, h3, h4⟩ := eD_zero.1 h0
  cases res with
  | none => exact (by decide : 0 < 9223372036854775807)
  | some u =>
   have := Tell.len hv (by omega) (by omega) h
   have := hN hv
   show u.length < _
   omega
 ·rw [if_neg h0] at h
  subst h
  exact (by decide : 0 < 9223372036854775807)
end Go.Lx


namespace Go.Lx
def clsOf (d : DFA) (s : Nat) : Nat := (itF d d.next.length).getD s 0
theorem clsOf_iff {d : DFA} (hv : Val d) {s t : Nat} (hs : s < d.next.length) (ht : t < d.next.length) : clsOf d s = clsOf d t ↔ ∀ u, Wd d u → ¬ dst d s t u := cls_iff hv hs ht
theorem clsOf_fin {d : DFA} (hv : Val d) {s t : Nat} (hs : s < d.next.length) (ht : t < d.next.length) (h : clsOf d s = clsOf d t) : finN d s = finN d t := by
 have := (clsOf_iff hv hs ht).1 h [] (fun x hx => by cases hx)
 exact Classical.not_not.1 this
theorem clsOf_next {d : DFA} (hv : Val d) {s t x : Nat} (hs : s < d.next.length) (ht : t < d.next.length) (hx : x < letN d) (h : clsOf d s = clsOf d t) : clsOf d (toN d s x) = clsOf d (toN d t x) := by
 rw [clsOf_iff hv (toN_get hv hs hx) (toN_get hv ht hx)]
 intro u hu hd
 exact (clsOf_iff hv hs ht).1 h (x :: u) (fun y hy => by rcases List.mem_cons.1 hy with rfl | hy; exact hx; exact hu y hy) hd
theorem quoN_at {d : DFA} {cs : List Nat} (hl : cs.length = d.next.length) (hc : nrm cs = cs) : ∀ k, k ≤ d.next.length → ∀ c, c < (quoN d cs k).1.length → ∃ s, s < k ∧ cs.getD s 0 = c ∧ (quoN d cs k).1[c]? = some ((rowK cs (d.next.getD s [])).map fun c : Nat => (c : Int)) ∧ (quoN d cs k).2[c]? = some (finN d s)
 | 0, _, c, h => by simp [quoN] at h
 | k + 1, hk, c, h => by
  have ih := quoN_at hl hc k (by omega)
  have hlen := quoN_len d cs k
  by_cases hn : cs.getD k 0 < (quoN d cs k).1.length
  ·rw [quoN, if_pos hn] at h ⊢
   obtain ⟨s, h1, h2⟩ := ih c h
   exact ⟨s, by omega, h2⟩
  ·rw [quoN, if_neg hn] at h ⊢
   by_cases hcl : c < (quoN d cs k).1.length
   ·obtain ⟨s, h1, h2, h3, h4⟩ := ih c hcl
    exact ⟨s, by omega, h2, by rw [List.getElem?_append_left hcl]; exact h3, by rw [List.getElem?_append_left (by omega)]; exact h4⟩
   ·have hce : c = (quoN d cs k).1.length := by simp at h; omega
    refine ⟨k, by omega, ?_, ?_, ?_⟩
    ·have h1 := quoN_cls (l := cs) hl hc.symm k (by omega)
     have h2 := quoN_cls (l := cs) hl hc.symm (k + 1) hk
     have hkl : k < cs.length := by omega
     have hg := List.getElem?_eq_getElem hkl
     have hck : cs.getD k 0 = ix cs[k] (dd cs) := by
      have := nrm_get hg
      rw [hc] at this
      rw [List.getD_eq_getElem?_getD, this]; rfl
     have hp2 : dd (cs.take (k + 1)) <+: dd cs := by
      conv => rhs; rw [← List.take_append_drop (k + 1) cs]
      rw [dd_append]; exact foldl_prefix _ _
     have hm : cs[k] ∈ dd (cs.take (k + 1)) := mem_dd.2 (by rw [List.take_succ_eq_append_getElem hkl]; exact List.mem_append_right _ (List.mem_singleton.2 rfl))
     have hlt := ix_lt hm
     rw [hck, ix_prefix hp2 hm]
     rw [hck, ix_prefix hp2 hm] at hn
     rw [quoN, if_neg (by rw [hck, ix_prefix hp2 hm]; exact hn)] at h2
     simp at h2
     omega
    ·rw [hce, List.getElem?_append_right (Nat.le_refl _)]; simp
    ·rw [hce, hlen.1, List.getElem?_append_right (Nat.le_refl _)]; simp [finN]
def quoD (d : DFA) : DFA := quo d (itF d d.next.length)
theorem quoD_val {d : DFA} (hv : Val d) : Val (quoD d) := (quo_itV hv d.next.length).1
theorem quoD_valid {d : DFA} (hv : Valid d) : Valid (quoD d) := (quo_itF hv d.next.length).1
theorem cls_lt {d : DFA} (hv : Val d) {s : Nat} (hs : s < d.next.length) : clsOf d s < (quoD d).next.length := by
 rw [quoD, quo_len (itF_length d _) (itF_can d _)]
 exact can_lt (itF_can d _) (itF_get hs)
theorem quoD_at {d : DFA} (hv : Val d) {c : Nat} (hc : c < (quoD d).next.length) : ∃ s, s < d.next.length ∧ clsOf d s = c ∧ finN (quoD d) c = finN d s ∧ ∀ x, x < letN d → toN (quoD d) c x = clsOf d (toN d s x) := by
 obtain ⟨s, h1, h2, h3, h4⟩ := quoN_at (itF_length d d.next.length) (itF_can d _) d.next.length (Nat.le_refl _) c hc
 refine ⟨s, h1, h2, ?_, ?_⟩
 ·show (quoN d (itF d d.next.length) d.next.length).2.getD c false = _
  rw [List.getD_eq_getElem?_getD, h4]; rfl
 ·intro x hx
  have hrow : (quoD d).next.getD c [] = (rowK (itF d d.next.length) (d.next.getD s [])).map fun c : Nat => (c : Int) := by
   show (quoN d (itF d d.next.length) d.next.length).1.getD c [] = _
   rw [List.getD_eq_getElem?_getD, h3]; rfl
  have hls : (d.next.getD s []).length = letN d := by simp [h1]; exact hv.len _ (List.getElem_mem h1)
  have hx' : x < (d.next.getD s []).length := by omega
  have e1 : (d.next.getD s []).getD x 0 = (d.next.getD s [])[x] := by rw [List.getD_eq_getElem?_getD, List.getElem?_eq_getElem hx']; rfl
  rw [toN, hrow, List.getD_eq_getElem?_getD, List.getElem?_map, rowK, List.getElem?_map, List.getElem?_eq_getElem hx']
  show (((itF d d.next.length).getD (d.next.getD s [])[x].toNat 0 : Nat) : Int).toNat = clsOf d (toN d s x)
  rw [Int.toNat_natCast, clsOf, toN, e1]
theorem quoD_step {d : DFA} (hv : Val d) {s x : Nat} (hs : s < d.next.length) (hx : x < letN d) : toN (quoD d) (clsOf d s) x = clsOf d (toN d s x) := by
 obtain ⟨s', h1, h2, _, h4⟩ := quoD_at hv (cls_lt hv hs)
 rw [h4 x hx]
 exact clsOf_next hv h1 hs hx h2
theorem quoD_fin {d : DFA} (hv : Val d) {s : Nat} (hs : s < d.next.length) : finN (quoD d) (clsOf d s) = finN d s := by
 obtain ⟨s', h1, h2, h3, _⟩ := quoD_at hv (cls_lt hv hs)
 rw [h3]; exact clsOf_fin hv h1 hs h2
theorem quoD_run {d : DFA} (hv : Val d) {s : Nat} (hs : s < d.next.length) : ∀ w, Wd d w → runN (quoD d) (clsOf d s) w = clsOf d (runN d s w) := by
 refine snocInd (fun _ => rfl) ?_
 intro w x ih hw
 have hw' : Wd d w := fun y hy => hw y (by simp [hy])
 rw [runN_snoc, runN_snoc, ih hw', quoD_step hv (runN_lt hv hs w hw') (hw x (by simp))]
theorem quoD_start (d : DFA) : (quoD d).start.toNat = clsOf d d.start.toNat := by
 show (((itF d d.next.length).getD d.start.toNat 0 : Nat) : Int).toNat = _
 rw [Int.toNat_natCast]; rfl
theorem order_start {d : DFA} (hv : Val d) : ∃ r, order d = d.start.toNat :: r := by
 have hp := bfsN_prefix d 0 d.next.length (Nat.zero_le _)
 obtain ⟨r, hr⟩ := hp
 exact ⟨r, hr.symm⟩
theorem renum_val {d : DFA} (hv : Val d) : Val (renum d) := by
 obtain ⟨r, hr⟩ := order_start hv
 have hl := order_len hv
 have hpos : 0 < (order d).length := by rw [hr]; simp
 refine ⟨hv.v0, hv.v6, ?_, ?_, Int.le_refl _, ?_, ?_, ?_⟩
 ·simpa [renum] using hpos
 ·simp [renum]
 ·show (0 : Int) < ((renum d).next.length : Nat)
  simp only [renum, List.length_map]; omega
 ·intro r hr
  obtain ⟨o, ho, rfl⟩ := List.mem_map.1 hr
  rw [List.length_map, sucs_length]; rfl
 ·intro r hr x hx
  obtain ⟨o, ho, rfl⟩ := List.mem_map.1 hr
  obtain ⟨t, ht, rfl⟩ := List.mem_map.1 hx
  refine ⟨Int.natCast_nonneg _, ?_⟩
  have := ix_lt (order_closed hv o ho t ht)
  simp only [renum, List.length_map]; omega
theorem renum_step {d : DFA} (hv : Val d) {s x : Nat} (hs : s ∈ order d) (hx : x < letN d) : toN (renum d) (ix s (order d)) x = ix (toN d s x) (order d) := by
 have hg := ix_get hs
 have hrow : (renum d).next.getD (ix s (order d)) [] = (sucs d s).map fun t => ((ix t (order d) : Nat) : Int) := by
  show ((order d).map fun o => (sucs d o).map fun t => ((ix t (order d) : Nat) : Int)).getD _ [] = _
  rw [List.getD_eq_getElem?_getD, List.getElem?_map, hg]; rfl
 rw [toN, hrow, List.getD_eq_getElem?_getD, List.getElem?_map, sucs_get hx]
 show ((ix (toN d s x) (order d) : Nat) : Int).toNat = _
 rw [Int.toNat_natCast]
theorem renum_fin {d : DFA} {s : Nat} (hs : s ∈ order d) : finN (renum d) (ix s (order d)) = finN d s := by
 show ((order d).map fun o => d.final.getD o false).getD _ false = _
 rw [List.getD_eq_getElem?_getD, List.getElem?_map, ix_get hs]; rfl
theorem order_run {d : DFA} (hv : Val d) {s : Nat} (hs : s ∈ order d) : ∀ w, Wd d w → runN d s w ∈ order d := by
 refine snocInd (fun _ => hs) ?_
 intro w x ih hw
 rw [runN_snoc]
 exact order_closed hv _ (ih fun y hy => hw y (by simp [hy])) _ (List.mem_of_getElem? (sucs_get (hw x (by simp))))
theorem renum_run {d : DFA} (hv : Val d) {s : Nat} (hs : s ∈ order d) : ∀ w, Wd d w → runN (renum d) (ix s (order d)) w = ix (runN d s w) (order d) := by
 refine snocInd (fun _ => rfl) ?_
 intro w x ih hw
 have hw' : Wd d w := fun y hy => hw y (by simp [hy])
 rw [runN_snoc, runN_snoc, ih hw', renum_step hv (order_run hv hs w hw') (hw x (by simp))]
theorem start_mem {d : DFA} (hv : Val d) : d.start.toNat ∈ order d := by
 obtain ⟨r, hr⟩ := order_start hv
 rw [hr]; simp
theorem start_ix {d : DFA} (hv : Val d) : ix d.start.toNat (order d) = 0 := by
 obtain ⟨r, hr⟩ := order_start hv
 rw [hr]; simp [ix]
def acc (d : DFA) (w : List Nat) : Bool := finN d (runN d d.start.toNat w)
theorem start_lt {d : DFA} (hv : Val d) : d.start.toNat < d.next.length := by have := hv.s0; have := hv.s1; omega
theorem renum_acc {d : DFA} (hv : Val d) {w : List Nat} (hw : Wd d w) : acc (renum d) w = acc d w := by
 have h := renum_run hv (start_mem hv) w hw
 rw [start_ix hv] at h
 show finN (renum d) (runN (renum d) 0 w) = _
 rw [h, renum_fin (order_run hv (start_mem hv) w hw)]; rfl
theorem quoD_acc {d : DFA} (hv : Val d) {w : List Nat} (hw : Wd d w) : acc (quoD d) w = acc d w := by
 unfold acc
 rw [quoD_start, quoD_run hv (start_lt hv) w hw, quoD_fin hv (runN_lt hv (start_lt hv) w hw)]
theorem minD_val {d : DFA} (hv : Val d) : Val (minD d) := renum_val (quoD_val hv)
theorem renum_fit {d : DFA} (hv : Val d) (h : (order d).length ≤ 4096) : Valid (renum d) := ⟨renum_val hv, by simpa [renum] using h⟩
theorem renum_valid {d : DFA} (hv : Valid d) : Valid (renum d) := renum_fit hv (Nat.le_trans (order_len hv.toVal) hv.n4)
theorem minD_valid {d : DFA} (hv : Valid d) : Valid (minD d) := renum_valid (quoD_valid hv)
theorem minD_acc {d : DFA} (hv : Val d) {w : List Nat} (hw : Wd d w) : acc (minD d) w = acc d w :=
 (renum_acc (quoD_val hv) hw).trans (quoD_acc hv hw)
inductive All2 (ρ : Nat → Nat → Prop) : List Nat → List Nat → Prop
 | nil : All2 ρ [] []
 | cons {a b l m} : ρ a b → All2 ρ l m → All2 ρ (a :: l) (b :: m)
theorem All2.append {ρ : Nat → Nat → Prop} {l m l' m' : List Nat} (h : All2 ρ l m) (h' : All2 ρ l' m') : All2 ρ (l ++ l') (m ++ m') := by
 induction h with
 | nil => exact h'
 | cons h1 _ ih => exact .cons h1 ih
theorem All2.len {ρ : Nat → Nat → Prop} {l m : List Nat} (h : All2 ρ l m) : l.length = m.length := by
 induction h with
 | nil => rfl
 | cons _ _ ih => simp [ih]
theorem All2.get {ρ : Nat → Nat → Prop} {l m : List Nat} (h : All2 ρ l m) : ∀ {i a b : Nat}, l[i]? = some a → m[i]? = some b → ρ a b := by
 induction h with
 | nil => intro i a b h; simp at h
 | cons h1 _ ih =>
  intro i a b ha hb
  cases i with
  | zero => simp at ha hb; subst ha; subst hb; exact h1
  | succ i => exact ih (by simpa using ha) (by simpa using hb)
section
variable {ρ : Nat → Nat → Prop}
def OneOne (ρ : Nat → Nat → Prop) : Prop := ∀ a b a' b', ρ a b → ρ a' b' → (a = a' ↔ b = b')
theorem All2.mem (ho : OneOne ρ) {l m : List Nat} (h : All2 ρ l m) {a b : Nat} (hab : ρ a b) : a ∈ l ↔ b ∈ m := by
 induction h with
 | nil => simp
 | cons h1 _ ih => rw [List.mem_cons, List.mem_cons, ih, ho _ _ _ _ hab h1]
theorem All2.ix (ho : OneOne ρ) {l m : List Nat} (h : All2 ρ l m) {a b : Nat} (hab : ρ a b) : Lx.ix a l = Lx.ix b m := by
 induction h with
 | nil => rfl
 | @cons x y l m h1 _ ih =>
  simp only [Lx.ix, ih]
  by_cases e : a = x
  ·rw [if_pos e, if_pos ((ho _ _ _ _ hab h1).1 e)]
  ·rw [if_neg e, if_neg (fun h => e ((ho _ _ _ _ hab h1).2 h))]
theorem All2.add (ho : OneOne ρ) {l m : List Nat} (h : All2 ρ l m) {a b : Nat} (hab : ρ a b) : All2 ρ (Lx.add l a) (Lx.add m b) := by
 unfold Lx.add
 by_cases e : a ∈ l
 ·rw [if_pos e, if_pos ((h.mem ho hab).1 e)]; exact h
 ·rw [if_neg e, if_neg (fun h9 => e ((h.mem ho hab).2 h9))]; exact h.append (.cons hab .nil)
theorem All2.foldl (ho : OneOne ρ) {xs ys : List Nat} (hx : All2 ρ xs ys) : ∀ {l m : List Nat}, All2 ρ l m → All2 ρ (xs.foldl Lx.add l) (ys.foldl Lx.add m) := by
 induction hx with
 | nil => intro l m h; exact h
 | cons h1 _ ih => intro l m h; exact ih (h.add ho h1)
theorem All2.map {f g : Nat → Nat} : ∀ (l : List Nat), (∀ x ∈ l, ρ (f x) (g x)) → All2 ρ (l.map f) (l.map g)
 | [], _ => .nil
 | x :: l, h => .cons (h x (by simp)) (All2.map l fun y hy => h y (by simp [hy]))
structure Bisim (ρ : Nat → Nat → Prop) (p q : DFA) : Prop where
 vars : p.vars = q.vars
 one : OneOne ρ
 start : ρ p.start.toNat q.start.toNat
 step : ∀ a b x, ρ a b → x < letN p → ρ (toN p a x) (toN q b x)
 fin : ∀ a b, ρ a b → finN p a = finN q b
theorem Bisim.sucs {p q : DFA} (h : Bisim ρ p q) {a b : Nat} (hab : ρ a b) : All2 ρ (sucs p a) (sucs q b) := by
 unfold Lx.sucs
 rw [← h.vars]
 exact All2.map _ fun x hx => h.step a b x hab (List.mem_range.1 hx)
theorem Bisim.bfs {p q : DFA} (h : Bisim ρ p q) : ∀ i, All2 ρ (bfsN p i) (bfsN q i)
 | 0 => .cons h.start .nil
 | i + 1 => by
  have ih := h.bfs i
  have hl := ih.len
  rw [bfsN, bfsN, ← hl]
  by_cases hi : i < (bfsN p i).length
  ·rw [if_pos hi, if_pos hi]
   have hi2 : i < (bfsN q i).length := by omega
   have g1 := List.getElem?_eq_getElem hi
   have g2 := List.getElem?_eq_getElem hi2
   have e1 : (bfsN p i).getD i 0 = (bfsN p i)[i] := by rw [List.getD_eq_getElem?_getD, g1]; rfl
   have e2 : (bfsN q i).getD i 0 = (bfsN q i)[i] := by rw [List.getD_eq_getElem?_getD, g2]; rfl
   rw [e1, e2]
   exact (h.sucs (ih.get g1 g2)).foldl h.one ih
  ·rw [if_neg hi, if_neg hi]; exact ih
theorem Bisim.order {p q : DFA} (h : Bisim ρ p q) (hp : Val p) (hq : Val q) : All2 ρ (order p) (order q) := by
 obtain ⟨N, h1, h2, _⟩ := order_stop hp
 have e1 := order_eq h2 h1
 have hb := h.bfs N
 have h2q : (bfsN q N).length = N := by rw [← hb.len]; exact h2
 have hNq : N ≤ q.next.length := by rw [← h2q]; exact bfsN_len hq N
 rw [e1, order_eq h2q hNq]
 exact hb
theorem Bisim.renum {p q : DFA} (h : Bisim ρ p q) (hp : Val p) (hq : Val q) : renum p = renum q := by
 have ho := h.order hp hq
 have rows : ∀ {l m : List Nat}, All2 ρ l m → (l.map fun o => (Lx.sucs p o).map fun t => ((Lx.ix t (Lx.order p) : Nat) : Int)) = m.map fun o => (Lx.sucs q o).map fun t => ((Lx.ix t (Lx.order q) : Nat) : Int) := by
  intro l m hlm
  induction hlm with
  | nil => rfl
  | cons h1 _ ih =>
   rw [List.map_cons, List.map_cons, ih]
   congr 1
   have hs := h.sucs h1
   have each : ∀ {x y : List Nat}, All2 ρ x y → (x.map fun t => ((Lx.ix t (Lx.order p) : Nat) : Int)) = y.map fun t => ((Lx.ix t (Lx.order q) : Nat) : Int) := by
    intro x y hxy
    induction hxy with
    | nil => rfl
    | cons h2 _ ih2 => rw [List.map_cons, List.map_cons, ih2, ho.ix h.one h2]
   exact each hs
 have fins : ∀ {l m : List Nat}, All2 ρ l m → (l.map fun o => p.final.getD o false) = m.map fun o => q.final.getD o false := by
  intro l m hlm
  induction hlm with
  | nil => rfl
  | cons h1 _ ih => rw [List.map_cons, List.map_cons, ih]; congr 1; exact h.fin _ _ h1
 unfold Lx.renum
 rw [rows ho, fins ho, h.vars]
end
theorem minD_unique {a b : DFA} (ha : Val a) (hb : Val b) (hvars : a.vars = b.vars) (h : ∀ w, Wd a w → acc a w = acc b w) : minD a = minD b := by
 have hwd : ∀ w, Wd a w ↔ Wd b w := fun w => by unfold Wd letN; rw [hvars]
 refine Bisim.renum (ρ := fun c1 c2 => ∃ s t, s < a.next.length ∧ t < b.next.length ∧ clsOf a s = c1 ∧ clsOf b t = c2 ∧ ∀ w, Wd a w → finN a (runN a s w) = finN b (runN b t w)) ⟨hvars, ?_, ?_, ?_, ?_⟩ (quoD_val ha) (quoD_val hb)
 ·rintro c1 c2 c1' c2' ⟨s, t, hs, ht, rfl, rfl, hw⟩ ⟨s', t', hs', ht', rfl, rfl, hw'⟩
  rw [clsOf_iff ha hs hs', clsOf_iff hb ht ht']
  constructor
  ·intro h1 u hu hd
   have hu' := (hwd u).2 hu
   refine h1 u hu' ?_
   unfold dst at *
   rw [hw u hu', hw' u hu']; exact hd
  ·intro h1 u hu hd
   refine h1 u ((hwd u).1 hu) ?_
   unfold dst at *
   rw [← hw u hu, ← hw' u hu]; exact hd
 ·exact ⟨a.start.toNat, b.start.toNat, start_lt ha, start_lt hb, (quoD_start a).symm, (quoD_start b).symm, h⟩
 ·rintro c1 c2 x ⟨s, t, hs, ht, rfl, rfl, hw⟩ hx
  have hxa : x < letN a := hx
  have hxb : x < letN b := by unfold letN at *; rw [← hvars]; exact hxa
  refine ⟨toN a s x, toN b t x, toN_get ha hs hxa, toN_get hb ht hxb, (quoD_step ha hs hxa).symm, (quoD_step hb ht hxb).symm, fun w hww => ?_⟩
  exact hw (x :: w) (fun y hy => by rcases List.mem_cons.1 hy with rfl | hy; exact hxa; exact hww y hy)
 ·rintro c1 c2 ⟨s, t, hs, ht, rfl, rfl, hw⟩
  show finN (quoD a) _ = finN (quoD b) _
  rw [quoD_fin ha hs, quoD_fin hb ht]
  exact hw [] (fun x hx => by cases hx)
end Go.Lx


namespace Go.Lx
end Go.Lx


namespace Go.Lx
end Go.Lx


namespace Go.Lx
theorem bfsN_reach {d : DFA} (hv : Val d) : ∀ i, ∀ o ∈ bfsN d i, ∃ w, Wd d w ∧ runN d d.start.toNat w = o
 | 0, o, h => by
  simp only [bfsN, List.mem_singleton] at h
  subst h
  exact ⟨[], fun x hx => (List.not_mem_nil hx).elim, rfl⟩
 | i + 1, o, h => by
  rw [bfsN] at h
  split at h
  ·rename_i hi
   rcases (mem_foldl_add _ _).1 h with h | h
   ·exact bfsN_reach hv i o h
   ·obtain ⟨x, hx, rfl⟩ := List.mem_map.1 h
    have hm : (bfsN d i).getD i 0 ∈ bfsN d i := by
     rw [List.getD_eq_getElem?_getD, List.getElem?_eq_getElem hi]; exact List.getElem_mem hi
    obtain ⟨w, hw, he⟩ := bfsN_reach hv i _ hm
    refine ⟨w ++ [x], fun y hy => ?_, by rw [runN_snoc, he]⟩
    rcases List.mem_append.1 hy with hy | hy
    ·exact hw y hy
    ·rw [List.mem_singleton.1 hy]; exact List.mem_range.1 hx
  ·exact bfsN_reach hv i o h
theorem minD_min {d : DFA} (hv : Val d) : minD (minD d) = minD d := minD_unique (minD_val hv) hv rfl fun w hw => minD_acc hv hw
end Go.Lx


namespace Go.Lx
open Go.RowKit
def prRow (a b : DFA) (s t : Nat) : List Int := (List.range (letN a)).map fun x => ((toN a s x * b.next.length + toN b t x : Nat) : Int)
def prNext (a b : DFA) : List (List Int) := (List.range (a.next.length * b.next.length)).map fun c => prRow a b (c / b.next.length) (c % b.next.length)
def prFin (f : Bool → Bool → Bool) (a b : DFA) : List Bool := (List.range (a.next.length * b.next.length)).map fun c => f (finN a (c / b.next.length)) (finN b (c % b.next.length))
def prodD (f : Bool → Bool → Bool) (a b : DFA) : DFA := ⟨a.vars, ((a.start.toNat * b.next.length + b.start.toNat : Nat) : Int), prNext a b, prFin f a b⟩
theorem pr_div {n s t : Nat} (ht : t < n) : (s * n + t) / n = s ∧ (s * n + t) % n = t := by
 rw [Nat.mul_comm]
 exact ⟨by rw [Nat.mul_add_div (by omega), Nat.div_eq_of_lt ht, Nat.add_zero], by rw [Nat.mul_add_mod, Nat.mod_eq_of_lt ht]⟩
theorem pr_lt {n k s t : Nat} (hs : s < k) (ht : t < n) : s * n + t < k * n := by
 have := Nat.mul_le_mul_right n (show s + 1 ≤ k by omega); rw [Nat.succ_mul] at this; omega
theorem pr_split {n k c : Nat} (h : c < k * n) : c / n < k ∧ c % n < n := by
 have hn : 0 < n := by
  rcases Nat.eq_zero_or_pos n with h0 | h0
  ·rw [h0, Nat.mul_zero] at h; exact absurd h (Nat.not_lt_zero _)
  ·exact h0
 exact ⟨(Nat.div_lt_iff_lt_mul hn).2 h, Nat.mod_lt _ hn⟩
theorem prod_len (f : Bool → Bool → Bool) (a b : DFA) : (prodD f a b).next.length = a.next.length * b.next.length := by
 show (prNext a b).length = _; unfold prNext; simp
theorem prod_val {f : Bool → Bool → Bool} {a b : DFA} (ha : Val a) (hb : Val b) (hv : a.vars = b.vars) : Val (prodD f a b) := by
 have a0 := start_lt ha; have b0 := start_lt hb
 have hlt := pr_lt a0 b0
 refine { v0 := ha.v0, v6 := ha.v6, n0 := ?_, fin := ?_, s0 := ?_, s1 := ?_, len := ?_, ok := ?_ }
 ·rw [prod_len]; omega
 ·rw [prod_len]; show (prFin f a b).length = _; unfold prFin; simp
 ·show (0 : Int) ≤ ((_ : Nat) : Int); omega
 ·rw [prod_len]; show ((_ : Nat) : Int) < ((_ : Nat) : Int); omega
 ·intro r hr
  obtain ⟨c, _, rfl⟩ := List.mem_map.1 (show r ∈ prNext a b from hr)
  unfold prRow; simp; rfl
 ·intro r hr x hx
  obtain ⟨c, hc, rfl⟩ := List.mem_map.1 (show r ∈ prNext a b from hr)
  obtain ⟨y, hy, rfl⟩ := List.mem_map.1 (show x ∈ prRow a b _ _ from hx)
  rw [List.mem_range] at hc hy
  obtain ⟨h1, h2⟩ := pr_split hc
  have h3 := (ha.toN_lt h1 hy).1
  have h4 := (hb.toN_lt h2 (by rw [← hv]; exact hy)).1
  have := pr_lt h3 h4
  rw [prod_len]; omega
theorem prod_valid {f : Bool → Bool → Bool} {a b : DFA} (ha : Val a) (hb : Val b) (hv : a.vars = b.vars) (hn : a.next.length * b.next.length ≤ 4096) : Valid (prodD f a b) := ⟨prod_val ha hb hv, by rw [prod_len]; exact hn⟩
theorem prod_fin {f : Bool → Bool → Bool} {a b : DFA} {s t : Nat} (hs : s < a.next.length) (ht : t < b.next.length) : finN (prodD f a b) (s * b.next.length + t) = f (finN a s) (finN b t) := by
 have hd := pr_div (s := s) ht
 have hc := pr_lt hs ht
 show (prFin f a b).getD _ false = _
 unfold prFin
 rw [List.getD_eq_getElem?_getD, List.getElem?_map, List.getElem?_range hc]
 simp only [Option.map_some, Option.getD_some, hd.1, hd.2]
theorem prod_step {f : Bool → Bool → Bool} {a b : DFA} {s t x : Nat} (hs : s < a.next.length) (ht : t < b.next.length) (hx : x < letN a) : toN (prodD f a b) (s * b.next.length + t) x = toN a s x * b.next.length + toN b t x := by
 have hd := pr_div (s := s) ht
 have hc := pr_lt hs ht
 show (((prNext a b).getD _ []).getD x 0).toNat = _
 unfold prNext
 rw [List.getD_eq_getElem?_getD (l := List.map _ _), List.getElem?_map, List.getElem?_range hc]
 simp only [Option.map_some, Option.getD_some, hd.1, hd.2]
 unfold prRow
 rw [List.getD_eq_getElem?_getD, List.getElem?_map, List.getElem?_range hx]
 exact Int.toNat_natCast _
theorem prod_run {f : Bool → Bool → Bool} {a b : DFA} (ha : Val a) (hb : Val b) (hv : a.vars = b.vars) {s t : Nat} (hs : s < a.next.length) (ht : t < b.next.length) : ∀ w, Wd a w → runN (prodD f a b) (s * b.next.length + t) w = runN a s w * b.next.length + runN b t w := by
 refine snocInd (fun _ => rfl) ?_
 intro w x ih hw
 have hw1 : Wd a w := fun y hy => hw y (by simp [hy])
 have hw2 : Wd b w := fun y hy => by have := hw1 y hy; unfold letN at this ⊢; rw [← hv]; exact this
 rw [runN_snoc, runN_snoc, runN_snoc, ih hw1, prod_step (runN_lt ha hs w hw1) (runN_lt hb ht w hw2) (hw x (by simp))]
theorem prod_acc {f : Bool → Bool → Bool} {a b : DFA} (ha : Val a) (hb : Val b) (hv : a.vars = b.vars) {w : List Nat} (hw : Wd a w) : acc (prodD f a b) w = f (acc a w) (acc b w) := by
 have a0 := start_lt ha; have b0 := start_lt hb
 have hw2 : Wd b w := fun y hy => by have := hw y hy; unfold letN at this ⊢; rw [← hv]; exact this
 unfold acc
 rw [show (prodD f a b).start.toNat = a.start.toNat * b.next.length + b.start.toNat from Int.toNat_natCast _, prod_run ha hb hv a0 b0 w hw, prod_fin (runN_lt ha a0 w hw) (runN_lt hb b0 w hw2)]
def opD (f : Bool → Bool → Bool) (a b : DFA) : DFA := minD (prodD f a b)
theorem opD_valid {f : Bool → Bool → Bool} {a b : DFA} (ha : Val a) (hb : Val b) (hv : a.vars = b.vars) (hn : a.next.length * b.next.length ≤ 4096) : Valid (opD f a b) := minD_valid (prod_valid ha hb hv hn)
theorem opD_acc {f : Bool → Bool → Bool} {a b : DFA} (ha : Val a) (hb : Val b) (hv : a.vars = b.vars) (hn : a.next.length * b.next.length ≤ 4096) {w : List Nat} (hw : Wd a w) : acc (opD f a b) w = f (acc a w) (acc b w) := by
 unfold opD; rw [minD_acc (prod_val ha hb hv) hw, prod_acc ha hb hv hw]
theorem opD_min {f : Bool → Bool → Bool} {a b : DFA} (ha : Val a) (hb : Val b) (hv : a.vars = b.vars) (hn : a.next.length * b.next.length ≤ 4096) : minD (opD f a b) = opD f a b := minD_min (prod_val ha hb hv)
theorem minD_len {d : DFA} (hv : Val d) : (minD d).next.length ≤ d.next.length := by
 have h1 : (minD d).next.length ≤ (quoD d).next.length := by
  show (renum (quoD d)).next.length ≤ _
  unfold renum
  rw [List.length_map]; exact order_len (quoD_val hv)
 have h2 := (quoN_len d (itF d d.next.length) d.next.length).2
 exact Nat.le_trans h1 h2
theorem opD_len {f : Bool → Bool → Bool} {a b : DFA} (ha : Val a) (hb : Val b) (hv : a.vars = b.vars) (hn : a.next.length * b.next.length ≤ 4096) : (opD f a b).next.length ≤ a.next.length * b.next.length := by
 rw [← prod_len f a b]; exact minD_len (prod_val ha hb hv)
theorem min_ext {a b : DFA} (ha : Val a) (hb : Val b) (hma : minD a = a) (hmb : minD b = b) (hv : a.vars = b.vars) (h : ∀ w, Wd a w → acc a w = acc b w) : a = b := by
 rw [← hma, ← hmb]; exact minD_unique ha hb hv h
end Go.Lx


namespace Go.Lx
theorem dif_short {d : DFA} (hv : Val d) {s t : Nat} (hs : s < d.next.length) (ht : t < d.next.length) (m : Nat) (h : dif d m s t = true) : dif d (d.next.length - 1) s t = true := by
 have hn := hv.n0
 have key : itF d (d.next.length - 1) = itF d d.next.length := by
  rcases itF_grow hv (d.next.length - 1) with ⟨j, hj, h⟩ | h
  ·have hst : refineF d (itF d j) = itF d j := by rw [← itF]; exact h
   rw [itF_stable hst _ (show j ≤ d.next.length - 1 by omega), itF_stable hst _ (show j ≤ d.next.length by omega)]
  ·obtain ⟨h1, h2⟩ := clsN_step hv (d.next.length - 1)
   have h3 := clsN_le d (d.next.length - 1 + 1)
   have h4 := h2 (by omega)
   rw [show d.next.length - 1 + 1 = d.next.length by omega] at h4
   exact h4.symm
 rcases Bool.eq_false_or_eq_true (dif d (d.next.length - 1) s t) with hh | hh
 ·exact hh
 ·rw [← itF_iff hv _ s t hs ht, key] at hh
  have h5 : dif d (max m d.next.length) s t = true := dif_mono (by omega) h
  have h6 := (itF_iff hv (max m d.next.length) s t hs ht).1 (by rw [itF_stab hv _ (by omega)]; exact hh)
  rw [h6] at h5; cases h5
theorem Tell.lt {d : DFA} (hv : Val d) {s t : Nat} (hs : s < d.next.length) (ht : t < d.next.length) {u : List Nat} (h : Tell d s t (some u)) : u.length < d.next.length := by
 have h : IsLeast d s t u := h
 have hd := dif_short hv hs ht u.length ((dif_iff d _ s t).2 ⟨u, h.wd, Nat.le_refl _, h.dst⟩)
 obtain ⟨w, h1, h2, h3⟩ := (dif_iff d _ s t).1 hd
 have := code_len u w (hv.wd64 h.wd) (hv.wd64 h1) (h.le w h1 h3)
 have := hv.n0
 omega
end Go.Lx


namespace Go.Lx
def both (a b : DFA) : DFA := ⟨a.vars, a.start, a.next ++ b.next.map fun r => r.map fun x => (a.next.length : Int) + x, a.final ++ b.final⟩
end Go.Lx


namespace Go.Lx
open Go.RowKit
def stayD (v : Int) (f : Bool) : DFA := ⟨v, 0, [List.replicate (2 ^ v.toNat) 0], [f]⟩
theorem stay_valid {v : Int} (h0 : 0 ≤ v) (h6 : v ≤ 6) (f : Bool) : Valid (stayD v f) := by
 have n0 : 0 < (stayD v f).next.length := by show 0 < [_].length; simp
 have s1 : (stayD v f).start < ((stayD v f).next.length : Int) := by show (0 : Int) < (([_].length : Nat) : Int); simp
 have len : ∀ r ∈ (stayD v f).next, r.length = 2 ^ (stayD v f).vars.toNat := by
  intro r hr
  rw [List.mem_singleton.1 (show r ∈ [List.replicate (2 ^ v.toNat) (0 : Int)] from hr), List.length_replicate]; rfl
 have ok : ∀ r ∈ (stayD v f).next, ∀ x ∈ r, 0 ≤ x ∧ x < ((stayD v f).next.length : Int) := by
  intro r hr x hx
  rw [List.mem_singleton.1 (show r ∈ [List.replicate (2 ^ v.toNat) (0 : Int)] from hr)] at hx
  rw [List.eq_of_mem_replicate hx]
  exact ⟨Int.le_refl _, by show (0 : Int) < (([_].length : Nat) : Int); simp⟩
 exact ⟨{ v0 := h0, v6 := h6, n0 := n0, fin := rfl, s0 := Int.le_refl _, s1 := s1, len := len, ok := ok }, by show [_].length ≤ 4096; simp⟩
theorem stay_acc {v : Int} (h0 : 0 ≤ v) (h6 : v ≤ 6) (f : Bool) {w : List Nat} (hw : Wd (stayD v f) w) : acc (stayD v f) w = f := by
 have hv := stay_valid h0 h6 f
 have h1 := runN_lt hv (start_lt hv) w hw
 have h2 : runN (stayD v f) (stayD v f).start.toNat w = 0 := Nat.lt_one_iff.1 h1
 unfold acc; rw [h2]; rfl
def LeastA (d : DFA) : Option (List Nat) → Prop
 | some w => Wd d w ∧ acc d w = true ∧ ∀ u, Wd d u → acc d u = true → code w ≤ code u
 | none => ∀ u, Wd d u → acc d u = false
theorem LeastA.unique {d : DFA} (hv : Valid d) {a b : Option (List Nat)} (ha : LeastA d a) (hb : LeastA d b) : a = b := by
 cases a with
 | none =>
  cases b with
  | none => rfl
  | some w => have := ha w hb.1; rw [hb.2.1] at this; cases this
 | some w =>
  cases b with
  | none => have := hb w ha.1; rw [ha.2.1] at this; cases this
  | some u =>
   have h1 := ha.2.2 u hb.1 hb.2.1
   have h2 := hb.2.2 w ha.1 ha.2.1
   rw [code_inj w u (hv.wd64 ha.1) (hv.wd64 hb.1) (Nat.le_antisymm h1 h2)]
theorem LeastA.congr {d e : DFA} (hv : d.vars = e.vars) (h : ∀ w, Wd d w → acc d w = acc e w) {r : Option (List Nat)} (hr : LeastA d r) : LeastA e r := by
 have hwd : ∀ w, Wd e w → Wd d w := fun w hw y hy => by have := hw y hy; unfold letN at *; rw [hv]; exact this
 have hwe : ∀ w, Wd d w → Wd e w := fun w hw y hy => by have := hw y hy; unfold letN at *; rw [← hv]; exact this
 cases r with
 | none => exact fun u hu => by rw [← h u (hwd u hu)]; exact hr u (hwd u hu)
 | some w => exact ⟨hwe w hr.1, by rw [← h w hr.1]; exact hr.2.1, fun u hu hau => hr.2.2 u (hwd u hu) (by rw [h u (hwd u hu)]; exact hau)⟩
end Go.Lx


namespace Go.Lx
open Go.RowKit
def WdV (v : Int) (w : List Nat) : Prop := ∀ x ∈ w, x < 2 ^ v.toNat
structure HasL (v : Int) (n : Nat) (d : DFA) (p : List Nat → Bool) : Prop where
 valid : Valid d
 len : d.next.length ≤ n
 vars : d.vars = v
 acc : ∀ w, WdV v w → acc d w = p w
theorem HasL.of {d : DFA} {n : Nat} (h : Valid d) (hl : d.next.length ≤ n) : HasL d.vars n d (Lx.acc d) := ⟨h, hl, rfl, fun _ _ => rfl⟩
theorem HasL.wd {v : Int} {n : Nat} {d : DFA} {p : List Nat → Bool} (h : HasL v n d p) {w : List Nat} : Wd d w ↔ WdV v w := by unfold Wd WdV letN; rw [h.vars]
structure MinL (v : Int) (n : Nat) (d : DFA) (p : List Nat → Bool) : Prop extends HasL v n d p where
 min : minD d = d
theorem HasL.op {f : Bool → Bool → Bool} {v : Int} {n m : Nat} {a b : DFA} {p q : List Nat → Bool} (ha : HasL v n a p) (hb : HasL v m b q) (h : n * m ≤ 4096) : MinL v (n * m) (opD f a b) (fun w => f (p w) (q w)) := by
 have hl : a.next.length * b.next.length ≤ n * m := Nat.mul_le_mul ha.len hb.len
 have hv : a.vars = b.vars := by rw [ha.vars, hb.vars]
 refine ⟨⟨opD_valid ha.valid hb.valid hv (by omega), Nat.le_trans (opD_len ha.valid hb.valid hv (by omega)) hl, ha.vars, fun w hw => ?_⟩, opD_min ha.valid hb.valid hv (by omega)⟩
 rw [opD_acc ha.valid hb.valid hv (by omega) (ha.wd.2 hw), ha.acc w hw, hb.acc w hw]
theorem HasL.minim {v : Int} {n : Nat} {d : DFA} {p : List Nat → Bool} (h : HasL v n d p) : MinL v n (minD d) p :=
 ⟨⟨minD_valid h.valid, Nat.le_trans (minD_len h.valid) h.len, h.vars, fun w hw => by rw [minD_acc h.valid (h.wd.2 hw)]; exact h.acc w hw⟩, minD_min h.valid⟩
theorem MinL.ext {v : Int} {n m : Nat} {a b : DFA} {p q : List Nat → Bool} (ha : MinL v n a p) (hb : MinL v m b q) (h : ∀ w, WdV v w → p w = q w) : a = b :=
 min_ext ha.valid hb.valid ha.min hb.min (by rw [ha.vars, hb.vars]) fun w hw => by rw [ha.acc w (ha.wd.1 hw), hb.acc w (ha.wd.1 hw), h w (ha.wd.1 hw)]
theorem MinL.ne {v : Int} {n m : Nat} {a b : DFA} {p q : List Nat → Bool} (ha : MinL v n a p) (hb : MinL v m b q) (h : a = b) : ∀ w, WdV v w → p w = q w := fun w hw => by
 rw [← ha.acc w hw, ← hb.acc w hw, h]
def andB (x y : Bool) : Bool := x && y
def minusB (x y : Bool) : Bool := x && !y
def notB (x _y : Bool) : Bool := !x
def notD (d : DFA) : DFA := opD notB d d
theorem HasL.not {v : Int} {n : Nat} {d : DFA} {p : List Nat → Bool} (h : HasL v n d p) (hn : n * n ≤ 4096) : MinL v (n * n) (notD d) (fun w => !p w) := h.op h hn
end Go.Lx


namespace Go.Lx
open Go.RowKit
theorem stay_min {v : Int} (h0 : 0 ≤ v) (h6 : v ≤ 6) (f : Bool) : MinL v 1 (minD (stayD v f)) (fun _ => f) :=
 (show HasL v 1 (stayD v f) (fun _ => f) from ⟨stay_valid h0 h6 f, by show [_].length ≤ 1; simp, rfl, fun w hw => stay_acc h0 h6 f hw⟩).minim
theorem run_one {d : DFA} (hv : Valid d) (h1 : d.next.length = 1) {w : List Nat} (hw : Wd d w) : runN d d.start.toNat w = 0 := by
 have := runN_lt hv (start_lt hv) w hw; omega
theorem MinL.empty {v : Int} {n : Nat} {d : DFA} {p : List Nat → Bool} (h : MinL v n d p) : (d.next.length = 1 ∧ finN d 0 = false) ↔ ∀ w, WdV v w → p w = false := by
 constructor
 ·rintro ⟨h1, h2⟩ w hw
  rw [← h.acc w hw]
  unfold acc; rw [run_one h.valid h1 (h.wd.2 hw), h2]
 ·intro hp
  have h0 : 0 ≤ v := by rw [← h.vars]; exact h.valid.v0
  have h6 : v ≤ 6 := by rw [← h.vars]; exact h.valid.v6
  have he := MinL.ext h (stay_min h0 h6 false) fun w hw => hp w hw
  have hl : d.next.length = 1 := by
   have a1 := (stay_min h0 h6 false).len; rw [← he] at a1
   have a2 := h.valid.n0; omega
  refine ⟨hl, ?_⟩
  have h2 := h.acc [] (fun x hx => by cases hx)
  rw [hp [] (fun x hx => by cases hx)] at h2
  unfold acc at h2; rw [run_one h.valid hl (fun x hx => by cases hx)] at h2; exact h2
end Go.Lx


namespace Go.Lx
open Go.RowKit
end Go.Lx


namespace Go.Lx
open Go.RowKit
def Det (z a : DFA) : Prop := ∀ u u', WdV z.vars u → WdV z.vars u' → runN z z.start.toNat u = runN z z.start.toNat u' → runN a a.start.toNat u = runN a a.start.toNat u'
def Fac (z : DFA) (p : List Nat → Bool) : Prop := ∀ u u' w, WdV z.vars u → WdV z.vars u' → WdV z.vars w → runN z z.start.toNat u = runN z z.start.toNat u' → p (u ++ w) = p (u' ++ w)
theorem WdV.append {v : Int} {u w : List Nat} (hu : WdV v u) (hw : WdV v w) : WdV v (u ++ w) := fun x hx => (List.mem_append.1 hx).elim (hu x) (hw x)
theorem Det.refl (z : DFA) : Det z z := fun _ _ _ _ h => h
theorem Fac.op {z : DFA} {p q : List Nat → Bool} (f : Bool → Bool → Bool) (hp : Fac z p) (hq : Fac z q) : Fac z (fun w => f (p w) (q w)) := fun u u' w hu hu' hw e => by
 show f _ _ = f _ _
 rw [hp u u' w hu hu' hw e, hq u u' w hu hu' hw e]
theorem Det.trans {z y a : DFA} (hv : z.vars = y.vars) (h : Det z y) (h2 : Det y a) : Det z a := fun u u' hu hu' e => h2 u u' (hv ▸ hu) (hv ▸ hu') (h u u' hu hu' e)
end Go.Lx


namespace Go.Lx
open Go.RowKit
def wrongD (a b : DFA) : Nat := if checkD a ≠ 0 then checkD a else if checkD b ≠ 0 then checkD b else if a.vars ≠ b.vars then 7 else 0
theorem wrongD_zero {a b : DFA} : wrongD a b = 0 ↔ Valid a ∧ Valid b ∧ a.vars = b.vars := by
 unfold wrongD
 rw [← checkD_zero, ← checkD_zero]
 split
 ·rename_i h; constructor
  ·intro e; exact absurd e h
  ·intro e; exact absurd e.1 h
 ·rename_i h1; split
  ·rename_i h; constructor
   ·intro e; exact absurd e h
   ·intro e; exact absurd e.2.1 h
  ·rename_i h2; split
   ·rename_i h; constructor
    ·intro e; exact absurd e (by decide)
    ·intro e; exact absurd e.2.2 h
   ·rename_i h; constructor
    ·intro _; exact ⟨by omega, by omega, Classical.not_not.1 h⟩
    ·intro _; rfl
def un (n c : Nat) : Int × Int := (((c / n : Nat) : Int), ((c % n : Nat) : Int))
end Go.Lx


namespace Go.Lx
open Go.RowKit
def InclA (a b : DFA) (r : Option (List Nat)) : Prop := if wrongD a b = 0 then LeastA (opD minusB a b) r else r = none
theorem InclA.unique {a b : DFA} (hn : wrongD a b = 0 → a.next.length * b.next.length ≤ 4096) {r s : Option (List Nat)} (h : InclA a b r) (h2 : InclA a b s) : r = s := by
 unfold InclA at h h2
 by_cases hw : wrongD a b = 0
 ·rw [if_pos hw] at h h2
  obtain ⟨va, vb, hv⟩ := wrongD_zero.1 hw
  exact h.unique (opD_valid va vb hv (hn hw)) h2
 ·rw [if_neg hw] at h h2; rw [h, h2]
theorem InclA.ok {a b : DFA} (hw : wrongD a b = 0) {r : Option (List Nat)} : InclA a b r ↔ LeastA (opD minusB a b) r := by unfold InclA; rw [if_pos hw]
def AllOk : DFA → List DFA → Prop
 | _, [] => True
 | d, x :: l => wrongD d x = 0 → d.next.length * x.next.length ≤ 64 ∧ AllOk (opD andB d x) l
theorem AllOk.at {d : DFA} {l : List DFA} {i : Nat} (h : i < l.length) (ha : AllOk d (l.drop i)) (hw : wrongD d l[i] = 0) : d.next.length * l[i].next.length ≤ 64 ∧ AllOk (opD andB d l[i]) (l.drop (i + 1)) := by
 rw [List.drop_eq_getElem_cons h] at ha
 exact ha hw
abbrev k00 : DK := ⟨none, 0, none, 0, []⟩
theorem prRow_len (a b : DFA) (s t : Nat) : (prRow a b s t).length = letN a := by unfold prRow; simp
theorem prRow_at {a b : DFA} {s t x : Nat} (h : x < letN a) : (prRow a b s t)[x]? = some ((toN a s x * b.next.length + toN b t x : Nat) : Int) := by unfold prRow; rw [List.getElem?_map, List.getElem?_range h]; rfl
theorem prNext_len (a b : DFA) : (prNext a b).length = a.next.length * b.next.length := by unfold prNext; simp
theorem prNext_at {a b : DFA} {s t : Nat} (hs : s < a.next.length) (ht : t < b.next.length) : (prNext a b)[s * b.next.length + t]? = some (prRow a b s t) := by
 obtain ⟨h1, h2⟩ := pr_div (s := s) ht
 unfold prNext; rw [List.getElem?_map, List.getElem?_range (pr_lt hs ht)]; simp only [Option.map_some, h1, h2]
end Go.Lx


namespace Go.Lx
open Go.RowKit
structure Par where
 vars : Int
 start : Int
 next : List (List Int)
 prio : List Int
deriving DecidableEq
def Par.d (p : Par) : DFA := ⟨p.vars, p.start, p.next, List.replicate p.next.length false⟩
def prN (p : Par) (s : Nat) : Nat := (p.prio.getD s 0).toNat
def prioOk (a : Int) : Bool := decide (0 ≤ a) && decide (a ≤ 16)
theorem prioOk_iff {a : Int} : prioOk a = true ↔ 0 ≤ a ∧ a ≤ 16 := by unfold prioOk; simp
def rowsPE (L n : Nat) : List (List Int) → List Int → Nat
 | [], _ => 0
 | r :: rs, ps => if r.length ≠ L then 2 else if rowOk n r = true then (if prioOk (ps.headD 0) = true then rowsPE L n rs ps.tail else 1) else 8
def checkP (p : Par) : Nat :=
 if ¬ (0 ≤ p.vars ∧ p.vars ≤ 6) then 7
 else if p.next.length = 0 then 3
 else if 4096 < p.next.length then 10
 else if p.prio.length ≠ p.next.length then 2
 else if p.start < 0 ∨ (p.next.length : Int) ≤ p.start then 8
 else rowsPE (2 ^ p.vars.toNat) p.next.length p.next p.prio
theorem rowsPE_at {L n : Nat} {rs : List (List Int)} {ps : List Int} {k : Nat} (hk : k < rs.length) (hp : rs.length = ps.length) : rowsPE L n (rs.drop k) (ps.drop k) = if rs[k].length ≠ L then 2 else if rowOk n rs[k] = true then (if prioOk (ps[k]'(by omega)) = true then rowsPE L n (rs.drop (k + 1)) (ps.drop (k + 1)) else 1) else 8 := by
 rw [List.drop_eq_getElem_cons hk, List.drop_eq_getElem_cons (show k < ps.length by omega)]; rfl
theorem rowsPE_end {L n : Nat} {rs : List (List Int)} {ps : List Int} {k : Nat} (hk : rs.length ≤ k) : rowsPE L n (rs.drop k) (ps.drop k) = 0 := by
 rw [List.drop_eq_nil_of_le hk]; rfl
structure ValidP (p : Par) : Prop where
 val : Val p.d
 n4 : p.next.length ≤ 4096
 pl : p.prio.length = p.next.length
 pr : ∀ x ∈ p.prio, 0 ≤ x ∧ x ≤ 16
theorem rowsPE_zero {L n : Nat} : ∀ {rs : List (List Int)} {ps : List Int}, rs.length = ps.length → (rowsPE L n rs ps = 0 ↔ ((∀ r ∈ rs, r.length = L) ∧ ∀ r ∈ rs, ∀ x ∈ r, 0 ≤ x ∧ x < (n : Int)) ∧ ∀ x ∈ ps, 0 ≤ x ∧ x ≤ 16)
 | [], [], _ => by simp [rowsPE]
 | [], _ :: _, h => by simp at h
 | _ :: _, [], h => by simp at h
 | r :: rs, a :: ps, h => by
  have ih := rowsPE_zero (L := L) (n := n) (rs := rs) (ps := ps) (by simpa using h)
  show ((if r.length ≠ L then 2 else if rowOk n r = true then (if prioOk a = true then rowsPE L n rs ps else 1) else 8) = 0) ↔ _
  by_cases h1 : r.length = L
  ·by_cases h2 : rowOk n r = true
   ·have h3 : ∀ x ∈ r, 0 ≤ x ∧ x < (n : Int) := by simpa [rowOk] using h2
    by_cases h4 : prioOk a = true
    ·rw [if_neg (by simp [h1]), if_pos h2, if_pos h4, ih]
     have h4 := prioOk_iff.1 h4
     simp only [List.mem_cons, forall_eq_or_imp]
     exact ⟨fun q => ⟨⟨⟨h1, q.1.1⟩, h3, q.1.2⟩, h4, q.2⟩, fun q => ⟨⟨q.1.1.2, q.1.2.2⟩, q.2.2⟩⟩
    ·rw [if_neg (by simp [h1]), if_pos h2, if_neg h4]
     exact ⟨fun q => (by cases q), fun q => absurd (prioOk_iff.2 (q.2 a (by simp))) h4⟩
   ·rw [if_neg (by simp [h1]), if_neg h2]
    refine ⟨fun q => (by cases q), fun q => (h2 ?_).elim⟩
    have := q.1.2 r (by simp)
    simpa [rowOk] using this
  ·rw [if_pos h1]
   exact ⟨fun q => (by cases q), fun q => (h1 (q.1.1 r (by simp))).elim⟩
theorem checkP_zero {p : Par} : checkP p = 0 ↔ ValidP p := by
 unfold checkP
 constructor
 ·intro h
  split at h; · cases h
  split at h; · cases h
  split at h; · cases h
  split at h; · cases h
  split at h; · cases h
  rename_i h1 h2 h3 h4 h5
  simp only [Classical.not_not] at h1 h4
  obtain ⟨⟨h6, h7⟩, h8⟩ := (rowsPE_zero h4.symm).1 h
  exact ⟨⟨h1.1, h1.2, by show 0 < p.next.length; omega, by simp [Par.d], by show 0 ≤ p.start; omega, by show p.start < (p.next.length : Int); omega, h6, h7⟩, by omega, h4, h8⟩
 ·intro h
  have hv := h.val
  have v0 : 0 ≤ p.vars := hv.v0
  have v6 : p.vars ≤ 6 := hv.v6
  have n0 : 0 < p.next.length := hv.n0
  have s0 : 0 ≤ p.start := hv.s0
  have s1 : p.start < (p.next.length : Int) := hv.s1
  rw [if_neg (by simp; omega), if_neg (by omega), if_neg (by have := h.n4; omega), if_neg (by simp [h.pl]), if_neg (by omega)]
  exact (rowsPE_zero h.pl.symm).2 ⟨⟨hv.len, hv.ok⟩, h.pr⟩
theorem ValidP.prLe {p : Par} (h : ValidP p) (s : Nat) : prN p s ≤ 16 := by
 unfold prN
 rw [List.getD_eq_getElem?_getD]
 cases hx : p.prio[s]? with
 | none => simp
 | some x =>
  have := h.pr x (List.mem_of_getElem? hx)
  simp only [Option.getD_some]; omega
theorem ValidP.prAt {p : Par} (h : ValidP p) {s : Nat} (hs : s < p.next.length) : p.prio[s]? = some ((prN p s : Nat) : Int) := by
 have hl : s < p.prio.length := by rw [h.pl]; exact hs
 have hb := h.pr _ (List.getElem_mem hl)
 unfold prN
 rw [List.getD_eq_getElem?_getD, List.getElem?_eq_getElem hl, Option.getD_some, Int.toNat_of_nonneg hb.1]
theorem ValidP.st {p : Par} (h : ValidP p) : p.start.toNat < p.next.length := start_lt h.val
def noP : Par := ⟨0, 0, [], []⟩
def withP (p : Par) (f : Nat → Int) : Par := ⟨p.vars, p.start, p.next, (List.range p.next.length).map f⟩
theorem withP_pr {p : Par} {f : Nat → Int} {s : Nat} (hs : s < p.next.length) : prN (withP p f) s = (f s).toNat := by
 unfold prN withP
 rw [List.getD_eq_getElem?_getD, List.getElem?_map, List.getElem?_range hs]; rfl
theorem withP_valid {p : Par} (h : ValidP p) {f : Nat → Int} (hf : ∀ s, s < p.next.length → 0 ≤ f s ∧ f s ≤ 16) : ValidP (withP p f) :=
 ⟨h.val, h.n4, by simp [withP], fun x hx => by
  obtain ⟨s, hs, rfl⟩ := List.mem_map.1 hx
  exact hf s (List.mem_range.1 hs)⟩
def coE (p : Par) : Nat := if checkP p ≠ 0 then checkP p else if 16 ∈ p.prio then 4 else 0
def coV (p : Par) : Par := if coE p = 0 then withP p (fun s => ((prN p s + 1 : Nat) : Int)) else noP
end Go.Lx


namespace Go.Lx
structure La where
 pre : List Nat
 loop : List Nat
deriving DecidableEq
def checkL (v : Nat) (l : La) : Nat :=
 if l.loop.length = 0 then 3
 else if 64 < l.pre.length ∨ 64 < l.loop.length then 4
 else if (l.pre.all fun x => decide (x < 2 ^ v)) = true ∧ (l.loop.all fun x => decide (x < 2 ^ v)) = true then 0
 else 1
def checkLV (v : Int) (l : La) : Nat := if ¬ (0 ≤ v ∧ v ≤ 6) then 7 else checkL v.toNat l
def La.n (l : La) : Nat := l.pre.length + l.loop.length
def La.ix (l : La) (i : Nat) : Nat := if i < l.pre.length then i else l.pre.length + (i - l.pre.length) % max l.loop.length 1
def La.at (l : La) (i : Nat) : Nat := if i < l.pre.length then l.pre.getD i 0 else l.loop.getD ((i - l.pre.length) % max l.loop.length 1) 0
theorem La.ix_lt {l : La} (h : 0 < l.loop.length) (i : Nat) : l.ix i < l.n := by
 unfold La.ix La.n
 split
 ·omega
 ·have := Nat.mod_lt (i - l.pre.length) (show 0 < max l.loop.length 1 by omega); omega
theorem La.at_pre {l : La} {i : Nat} (h : i < l.pre.length) : l.at i = l.pre[i] := by unfold La.at; rw [if_pos h]; simp [h]
end Go.Lx


namespace Go.Lx
open Go.RowKit
theorem La.ix_pre {l : La} {i : Nat} (h : i < l.pre.length) : l.ix i = i := by unfold La.ix; rw [if_pos h]
theorem La.ix_loop {l : La} {i : Nat} (h0 : 0 < l.loop.length) (h : l.pre.length ≤ i) : l.ix i = l.pre.length + (i - l.pre.length) % l.loop.length := by
 unfold La.ix; rw [if_neg (by omega), show max l.loop.length 1 = l.loop.length by omega]
theorem La.at_loop {l : La} {i : Nat} (h0 : 0 < l.loop.length) (h : l.pre.length ≤ i) : l.at i = l.loop[(i - l.pre.length) % l.loop.length]'(Nat.mod_lt _ h0) := by
 unfold La.at; rw [if_neg (by omega), show max l.loop.length 1 = l.loop.length by omega]
 have := Nat.mod_lt (i - l.pre.length) h0
 simp [this]
theorem La.at_lt {l : La} {n : Nat} (h0 : 0 < l.loop.length) (hp : ∀ x ∈ l.pre, x < n) (hl : ∀ x ∈ l.loop, x < n) (i : Nat) : l.at i < n := by
 by_cases h : i < l.pre.length
 ·rw [La.at_pre h]; exact hp _ (List.getElem_mem h)
 ·rw [La.at_loop h0 (by omega)]; exact hl _ (List.getElem_mem _)
structure LaAt (w : World) (l : La) (pb lb : Option Addr) (pc lc : Nat) : Prop where
 pre : Sl w pb (byts l.pre)
 loop : Sl w lb (byts l.loop)
 pc : l.pre.length ≤ pc
 lc : l.loop.length ≤ lc
@[simp] abbrev laCells (l : La) (pb : Option Addr) (pc : Nat) (lb : Option Addr) (lc : Nat) : List Value := [.slice pb l.pre.length pc, .slice lb l.loop.length lc]
theorem LaAt.keep {w w' : World} {l : La} {pb lb : Option Addr} {pc lc : Nat} (h : LaAt w l pb lb pc lc) (hb : ∀ k, k < w.heap.size → w'.heap[k]? = w.heap[k]?) : LaAt w' l pb lb pc lc := ⟨h.pre.keep hb, h.loop.keep hb, h.pc, h.lc⟩
theorem Inv.la {base : World} {O : List Item} {w : World} (hI : Inv base O w) {l : La} {pb lb : Option Addr} {pc lc : Nat} (h : LaAt base l pb lb pc lc) : LaAt w l pb lb pc lc := h.keep hI.below.block
structure LaB (l : La) : Prop where
 pre : l.pre.length ≤ 1000000
 loop : l.loop.length ≤ 1000000
 p8 : ∀ x ∈ l.pre, x < 256
 l8 : ∀ x ∈ l.loop, x < 256
structure LaRef where
 l : La
 pb : Option Addr
 pc : Nat
 lb : Option Addr
 lc : Nat
def LaRef.cells (q : LaRef) : List Value := laCells q.l q.pb q.pc q.lb q.lc
theorem flatL_get {α : Type} {F : α → List Value} {k : Nat} (hF : ∀ a, (F a).length = k) : ∀ {qs : List α} {i : Nat} (h : i < qs.length) (j : Nat), j < k → (qs.flatMap F)[i * k + j]? = (F qs[i])[j]?
 | e :: es, 0, _, j, hj => by
  simp only [List.flatMap_cons, List.getElem_cons_zero]
  rw [List.getElem?_append_left (by rw [hF]; omega)]; simp
 | e :: es, i + 1, h, j, hj => by
  have ih := flatL_get hF (qs := es) (i := i) (by simpa using h) j hj
  simp only [List.flatMap_cons, List.getElem_cons_succ] at ih ⊢
  have : (i + 1) * k + j = i * k + j + k := by rw [Nat.add_mul, Nat.one_mul]; omega
  rw [List.getElem?_append_right (by rw [hF]; omega), hF, ← ih]; congr 1; omega
theorem flatL_len {α : Type} {F : α → List Value} {k : Nat} (hF : ∀ a, (F a).length = k) : ∀ (qs : List α), (qs.flatMap F).length = qs.length * k
 | [] => by simp
 | q :: qs => by rw [List.flatMap_cons, List.length_append, hF, flatL_len hF qs, List.length_cons, Nat.add_mul]; omega
theorem anyK_snoc {α : Type} {l : List α} {k : Nat} (h : k < l.length) {p : α → Bool} (h1 : (l.take k).any p = false) (h2 : p l[k] = false) : (l.take (k + 1)).any p = false := by
 rw [List.take_succ_eq_append_getElem h, List.any_append, h1]; simp [h2]
theorem anyK_hit {α : Type} {l : List α} {k : Nat} (h : k < l.length) {p : α → Bool} (h2 : p l[k] = true) : l.any p = true := List.any_eq_true.2 ⟨_, List.getElem_mem h, h2⟩
theorem anyK_done {α : Type} {l : List α} {k : Nat} (h : ¬ k < l.length) {p : α → Bool} (h1 : (l.take k).any p = false) : l.any p = false := by rwa [List.take_of_length_le (by omega)] at h1
theorem anyK_not {α : Type} {l : List α} {p : α → Prop} [DecidablePred p] (h : (l.all fun x => decide (p x)) = true) : (l.any fun x => decide (¬ p x)) = false := by
 rw [List.any_eq_false]; intro x hx; have := List.all_eq_true.1 h x hx; simpa using this
theorem allK_not {α : Type} {l : List α} {p : α → Prop} [DecidablePred p] (h : (l.any fun x => decide (¬ p x)) = false) : (l.all fun x => decide (p x)) = true := by
 rw [List.any_eq_false] at h; rw [List.all_eq_true]; intro x hx; have := h x hx; simpa using this
abbrev fn (l : List Nat) : Nat → Nat := fun v => l.getD v 0
theorem fn_set {l : List Nat} {v a : Nat} (h : v < l.length) (x : Nat) : fn (l.set v a) x = if x = v then a else fn l x := by
 show (l.set v a).getD x 0 = _
 rw [List.getD_eq_getElem?_getD, List.getElem?_set]
 by_cases e : v = x
 ·subst e; simp [h]
 ·rw [if_neg e, if_neg (fun h => e h.symm)]; simp
theorem fn_get {l : List Nat} {v : Nat} (h : v < l.length) : fn l v = l[v] := by show l.getD v 0 = _; simp [h]
abbrev fb (l : List Bool) : Nat → Bool := fun v => l.getD v false
theorem fb_set {l : List Bool} {v : Nat} {a : Bool} (h : v < l.length) (x : Nat) : fb (l.set v a) x = if x = v then a else fb l x := by
 show (l.set v a).getD x false = _
 rw [List.getD_eq_getElem?_getD, List.getElem?_set]
 by_cases e : v = x
 ·subst e; simp [h]
 ·rw [if_neg e, if_neg (fun h => e h.symm)]; simp
theorem rowP.cap {b : Option Addr} {c : Nat} {T : TypeId} {cs : List Value} {w : World} (h : rowP b c T 1 cs w) : cs.length ≤ c := by
 cases b with
 | none => obtain ⟨rfl, rfl⟩ := h; exact Nat.le_refl _
 | some a => obtain ⟨_, _, _, h3, _⟩ := h; omega
theorem gd {l : List Nat} {v : Nat} (h : v < l.length) : l.getD v 0 = l[v] := by simp [h]
end Go.Lx


namespace Go.Lx
open Go.RowKit
abbrev parCells (p : Par) (nb : Option Addr) (nc : Nat) (fb : Option Addr) (fc : Nat) : List Value := [.int .i64 p.vars, .int .i64 p.start, .slice nb p.next.length nc, .slice fb p.prio.length fc]
structure ParAt (w : World) (p : Par) (nb : Option Addr) (vs : List Value) (fb : Option Addr) : Prop where
 outer : Sl w nb vs
 rows : RowsR w vs p.next
 prio : Sl w fb (ints p.prio)
theorem ParAt.keep {w w' : World} {p : Par} {nb : Option Addr} {vs : List Value} {fb : Option Addr} (h : ParAt w p nb vs fb) (hb : ∀ k, k < w.heap.size → w'.heap[k]? = w.heap[k]?) : ParAt w' p nb vs fb :=
 ⟨h.outer.keep hb, h.rows.keep hb, h.prio.keep hb⟩
abbrev pC (p : Par) (k : DK) : List Value := parCells p k.nb k.nc k.fb k.fc
abbrev pV (p : Par) (k : DK) : Value := .agg (pC p k).toArray
abbrev AtP (w : World) (p : Par) (k : DK) : Prop := ParAt w p k.nb (vals k.qs) k.fb
theorem Inv.atQ {base w : World} {O : List Item} {p : Par} {k : DK} (hI : Inv base O w) (h : AtP base p k) : AtP w p k := h.keep hI.below.block
def pI (II I : TypeId) (p : Par) (k : DK) : Item := packI (nums k.qs = p.next) ([rowI k.nb k.nc II 1 (vals k.qs), rowI k.fb k.fc I 1 (ints p.prio)] ++ itms I k.qs)
theorem Inv.atP {base w : World} {O : List Item} {II I : TypeId} {p : Par} {k : DK} (hI : Inv base O w) (h : pI II I p k ∈ O) : AtP w p k := by
 have h0 := hI.holds _ h
 have g : ∀ it ∈ [rowI k.nb k.nc II 1 (vals k.qs), rowI k.fb k.fc I 1 (ints p.prio)] ++ itms I k.qs, it.P w := h0.2
 refine ⟨rowP.sl (g (rowI k.nb k.nc II 1 (vals k.qs)) (by simp)), ?_, rowP.sl (g (rowI k.fb k.fc I 1 (ints p.prio)) (by simp))⟩
 rw [← h0.1]
 refine ⟨by simp, fun i x hx => ?_⟩
 rw [List.getElem?_map] at hx
 obtain ⟨q, hq, rfl⟩ := Option.map_eq_some_iff.1 hx
 refine ⟨q.b, q.c, by rw [List.getElem?_map, hq]; rfl, ?_⟩
 have : (Rec.itm I q).P w := g _ (List.mem_append_right _ (List.mem_map_of_mem (List.mem_of_getElem? hq)))
 exact rowP.sl this
theorem ParAt.dk {w : World} {p : Par} {nb : Option Addr} {vs : List Value} {fb : Option Addr} (nc fc : Nat) (h : ParAt w p nb vs fb) : ∃ k : DK, AtP w p k ∧ parCells p nb nc fb fc = pC p k := by
 obtain ⟨qs, rfl, e⟩ := rows_rec h.rows
 exact ⟨⟨nb, nc, fb, fc, qs⟩, h, rfl⟩
structure LK where
 pb : Option Addr
 pc : Nat
 lb : Option Addr
 lc : Nat
abbrev lC (l : La) (k : LK) : List Value := [.slice k.pb l.pre.length k.pc, .slice k.lb l.loop.length k.lc]
abbrev lV (l : La) (k : LK) : Value := .agg (lC l k).toArray
abbrev AtL (w : World) (l : La) (k : LK) : Prop := LaAt w l k.pb k.lb k.pc k.lc
theorem rowP.capLe {b : Option Addr} {c k : Nat} {T : TypeId} {cs : List Value} {w : World} (h : rowP b c T k cs w) : cs.length ≤ c * k := by
 cases b with
 | none => obtain ⟨rfl, rfl⟩ := h; simp
 | some a => obtain ⟨_, full, _, h, _⟩ := h; exact h
def lI (U8 : TypeId) (l : La) (k : LK) : Item := packI True [rowI k.pb k.pc U8 1 (byts l.pre), rowI k.lb k.lc U8 1 (byts l.loop)]
theorem Inv.atL {base w : World} {O : List Item} {U8 : TypeId} {l : La} {k : LK} (hI : Inv base O w) (h : lI U8 l k ∈ O) : AtL w l k := by
 have h0 := (hI.holds _ h).2
 have g1 : rowP k.pb k.pc U8 1 (byts l.pre) w := h0 (rowI k.pb k.pc U8 1 (byts l.pre)) (by simp)
 have g2 : rowP k.lb k.lc U8 1 (byts l.loop) w := h0 (rowI k.lb k.lc U8 1 (byts l.loop)) (by simp)
 exact ⟨g1.sl, g2.sl, by have := g1.capLe; simpa using this, by have := g2.capLe; simpa using this⟩
structure ParC (p : Par) : Prop where
 n : p.next.length < 1152921504606846976
 r : ∀ r ∈ p.next, r.length < 1152921504606846976
 f : p.prio.length < 1152921504606846976
structure ParS (p : Par) : Prop where
 n : p.next.length ≤ 100000
 r : ∀ r ∈ p.next, r.length ≤ 100000
 f : p.prio.length ≤ 100000
theorem ParS.c {p : Par} (h : ParS p) : ParC p := ⟨by have := h.n; omega, fun r hr => by have := h.r r hr; omega, by have := h.f; omega⟩
theorem ValidP.letN6 {p : Par} (h : ValidP p) : letN p.d ≤ 64 := by
 have h6 := h.val.v6
 have h0 := h.val.v0
 show 2 ^ p.d.vars.toNat ≤ 2 ^ 6
 exact Nat.pow_le_pow_right (by decide) (by omega)
theorem ValidP.s {p : Par} (h : ValidP p) : ParS p :=
 ⟨by have := h.n4; omega, fun r hr => by have e : r.length = letN p.d := h.val.len r hr; have := h.letN6; omega, by have := h.n4; have := h.pl; omega⟩
theorem ValidP.c {p : Par} (h : ValidP p) : ParC p := h.s.c
end Go.Lx


namespace Go.Lx
section
variable {w : Nat → Nat}
def Bd (w : Nat → Nat) (n c : Nat) : Prop := c < n ∧ ∀ i, i < c → w i = w (n - c + i)
structure LB (w : Nat → Nat) (n c : Nat) : Prop where
 b : Bd w n c
 m : ∀ d, Bd w n d → d ≤ c
def Per (w : Nat → Nat) (n p : Nat) : Prop := ∀ i, i + p < n → w i = w (i + p)
theorem Bd.zero {n : Nat} (h : 0 < n) : Bd w n 0 := ⟨h, fun i hi => by omega⟩
theorem Bd.sub {n k d : Nat} (h : Bd w n k) (h2 : Bd w k d) : Bd w n d := by
 refine ⟨by have := h.1; have := h2.1; omega, fun i hi => ?_⟩
 have h1 := h.1; have h3 := h2.1
 rw [h2.2 i hi, h.2 (k - d + i) (by omega)]
 congr 1; omega
theorem Bd.of {n k d : Nat} (h : Bd w n k) (h2 : Bd w n d) (hlt : d < k) : Bd w k d := by
 refine ⟨hlt, fun i hi => ?_⟩
 have h1 := h.1
 rw [h2.2 i hi, h.2 (k - d + i) (by omega)]
 congr 1; omega
theorem Bd.per {n c : Nat} : Bd w n c ↔ c < n ∧ Per w n (n - c) := by
 constructor
 ·rintro ⟨h, h2⟩
  refine ⟨h, fun i hi => ?_⟩
  rw [h2 i (by omega)]; congr 1; omega
 ·rintro ⟨h, h2⟩
  refine ⟨h, fun i hi => ?_⟩
  rw [h2 i (by omega)]; congr 1; omega
def Cand (w : Nat → Nat) (i k : Nat) : Prop := Bd w i k ∧ ∀ d, Bd w i d → w d = w i → d ≤ k
end
namespace KMP
variable {w : Nat → Nat}
theorem start {i k : Nat} (h : LB w i k) : Cand w i k := ⟨h.b, fun d hd _ => h.m d hd⟩
theorem next {i k k' : Nat} (h : Cand w i k) (hne : w i ≠ w k) (hk : LB w k k') : Cand w i k' :=
 ⟨h.1.sub hk.b, fun d hd hw => by
  have h1 := h.2 d hd hw
  by_cases e : d = k
  ·subst e; exact absurd hw.symm hne
  ·exact hk.m d (h.1.of hd (by omega))⟩
theorem hit {i k : Nat} (h : Cand w i k) (he : w i = w k) : LB w (i + 1) (k + 1) := by
 have h1 := h.1.1
 refine ⟨⟨by omega, fun j hj => ?_⟩, fun d hd => ?_⟩
 ·by_cases e : j = k
  ·subst e; rw [show i + 1 - (j + 1) + j = i by omega]; exact he.symm
  ·rw [h.1.2 j (by omega)]; congr 1; omega
 ·cases d with
  | zero => omega
  | succ d =>
   have h2 := hd.1
   have : d ≤ k := h.2 d ⟨by omega, fun j hj => by rw [hd.2 j (by omega)]; congr 1; omega⟩ (by rw [hd.2 d (by omega)]; congr 1; omega)
   omega
theorem miss {i : Nat} (h : Cand w i 0) (he : w i ≠ w 0) : LB w (i + 1) 0 := by
 refine ⟨Bd.zero (by omega), fun d hd => ?_⟩
 cases d with
 | zero => omega
 | succ d =>
  have h2 := hd.1
  have hw : w d = w i := by rw [hd.2 d (by omega)]; congr 1; omega
  have : d ≤ 0 := h.2 d ⟨by omega, fun j hj => by rw [hd.2 j (by omega)]; congr 1; omega⟩ hw
  have : d = 0 := by omega
  subst this
  exact absurd hw.symm he
theorem one : LB w 1 0 := ⟨Bd.zero (by omega), fun d hd => by have := hd.1; omega⟩
end KMP
section
variable {w : Nat → Nat}
theorem per_gcd : ∀ (N n p q : Nat), p + q ≤ N → 0 < p → 0 < q → p + q ≤ n → Per w n p → Per w n q → Per w n (Nat.gcd p q)
 | 0, n, p, q, hN, hp, hq, _, _, _ => by omega
 | N + 1, n, p, q, hN, hp, hq, hn, h1, h2 => by
  have sub : ∀ p q : Nat, q < p → 0 < q → p + q ≤ n → Per w n p → Per w n q → Per w n (p - q) := fun p q hlt hq hn h1 h2 i hi => by
   by_cases e : q ≤ i
   ·have e1 := h2 (i - q) (by omega)
    rw [Nat.sub_add_cancel e] at e1
    have e2 := h1 (i - q) (by omega)
    rw [← e1, e2]; congr 1; omega
   ·have e1 := h2 (i + (p - q)) (by omega)
    rw [h1 i (by omega), e1]; congr 1; omega
  rcases Nat.lt_trichotomy p q with h | h | h
  ·have h3 := per_gcd N n p (q - p) (by omega) hp (by omega) (by omega) h1 (sub q p h hp (by omega) h2 h1)
   rwa [show Nat.gcd p (q - p) = Nat.gcd p q by rw [← Nat.gcd_add_self_right p (q - p), Nat.sub_add_cancel (Nat.le_of_lt h)]] at h3
  ·subst h; rwa [Nat.gcd_self]
  ·have h3 := per_gcd N n (p - q) q (by omega) (by omega) hq (by omega) (sub p q h hq hn h1 h2) h2
   rwa [show Nat.gcd (p - q) q = Nat.gcd p q by rw [Nat.gcd_comm, ← Nat.gcd_add_self_right q (p - q), Nat.sub_add_cancel (Nat.le_of_lt h), Nat.gcd_comm]] at h3
theorem Per.mod {n p : Nat} (hp : 0 < p) (h : Per w n p) : ∀ i, i < n → w i = w (i % p) := by
 intro i
 induction i using Nat.strongRecOn with
 | _ i ih =>
  intro hi
  by_cases e : i < p
  ·rw [Nat.mod_eq_of_lt e]
  ·have h1 := h (i - p) (by omega)
   rw [Nat.sub_add_cancel (by omega)] at h1
   rw [← h1, ih (i - p) (by omega) (by omega), Nat.mod_eq_sub_mod (by omega : p ≤ i)]
theorem Per.of_mod {n p : Nat} (h : ∀ i, i < n → w i = w (i % p)) : Per w n p := fun i hi => by
 rw [h i (by omega), h (i + p) hi, Nat.add_mod_right]
structure Root (w : Nat → Nat) (n q : Nat) : Prop where
 pos : 0 < q
 dvd : q ∣ n
 rep : ∀ i, i < n → w i = w (i % q)
 prim : ∀ d, 0 < d → d ∣ q → (∀ i, i < q → w i = w (i % d)) → d = q
theorem root_of {n c : Nat} (hn : 0 < n) (h : LB w n c) : Root w n (if n % (n - c) = 0 then n - c else n) := by
 have hc := h.b.1
 have hper := (Bd.per.1 h.b).2
 have hmin : ∀ d, 0 < d → d ≤ n → Per w n d → n - c ≤ d := fun d hd hdn hp => by
  have := h.m (n - d) (Bd.per.2 ⟨by omega, by rwa [show n - (n - d) = d by omega]⟩)
  omega
 by_cases hdv : n % (n - c) = 0
 ·rw [if_pos hdv]
  have hdvd : n - c ∣ n := Nat.dvd_of_mod_eq_zero hdv
  refine ⟨by omega, hdvd, hper.mod (by omega), fun d hd hdq hrep => ?_⟩
  have h1 : Per w n d := Per.of_mod fun i hi => by
   rw [hper.mod (by omega) i hi, hrep _ (Nat.mod_lt _ (by omega)), Nat.mod_mod_of_dvd _ hdq]
  have h2 := Nat.le_of_dvd (by omega) hdq
  have := hmin d hd (by omega) h1
  omega
 ·rw [if_neg hdv]
  refine ⟨hn, Nat.dvd_refl _, fun i hi => by rw [Nat.mod_eq_of_lt hi], fun d hd hdn hrep => ?_⟩
  apply Classical.byContradiction
  intro hne
  have h1 : Per w n d := Per.of_mod hrep
  obtain ⟨t, ht⟩ := hdn
  have ht2 : 2 ≤ t := by
   rcases t with _ | _ | t
   ·simp at ht; omega
   ·simp at ht; omega
   ·omega
  have hdle : d * 2 ≤ n := by rw [ht]; exact Nat.mul_le_mul_left d ht2
  have hp := hmin d hd (by omega) h1
  have hg := per_gcd _ n (n - c) d (Nat.le_refl _) (by omega) hd (by omega) hper h1
  have hgp : 0 < Nat.gcd (n - c) d := Nat.gcd_pos_of_pos_right _ hd
  have hgl : Nat.gcd (n - c) d ≤ n - c := Nat.gcd_le_left d (by omega)
  have hge := hmin _ hgp (by omega) hg
  have he : Nat.gcd (n - c) d = n - c := by omega
  have h3 : n - c ∣ d := he ▸ Nat.gcd_dvd_right (n - c) d
  exact hdv (Nat.mod_eq_zero_of_dvd (Nat.dvd_trans h3 ⟨t, ht⟩))
end
def La.u (l : La) (i : Nat) : Nat := l.loop.getD (i % l.loop.length) 0
structure IsCanon (l : La) : Prop where
 pos : 0 < l.loop.length
 prim : ∀ d, 0 < d → d ∣ l.loop.length → (∀ i, l.u (i + d) = l.u i) → d = l.loop.length
 last : 0 < l.pre.length → l.pre.getD (l.pre.length - 1) 0 ≠ l.loop.getD (l.loop.length - 1) 0
theorem La.at_u {l : La} (h : 0 < l.loop.length) (i : Nat) : l.at (l.pre.length + i) = l.u i := by
 unfold La.at La.u
 rw [if_neg (by omega), Nat.add_sub_cancel_left, show max l.loop.length 1 = l.loop.length by omega]
theorem La.u_per {l : La} (i : Nat) : l.u (i + l.loop.length) = l.u i := by unfold La.u; rw [Nat.add_mod_right]
theorem La.u_perN {l : La} (i : Nat) : ∀ t, l.u (i + l.loop.length * t) = l.u i
 | 0 => rfl
 | t + 1 => by rw [Nat.mul_succ, ← Nat.add_assoc, La.u_per, La.u_perN i t]
def EP (W : Nat → Nat) (p : Nat) : Prop := ∃ N, ∀ i, N ≤ i → W (i + p) = W i
theorem EP.sub {W : Nat → Nat} {p q : Nat} (h : q ≤ p) (h1 : EP W p) (h2 : EP W q) : EP W (p - q) := by
 obtain ⟨N, h1⟩ := h1
 obtain ⟨M, h2⟩ := h2
 refine ⟨max N M, fun i hi => ?_⟩
 have e1 := h2 (i + (p - q)) (by omega)
 rw [show i + (p - q) + q = i + p by omega, h1 i (by omega)] at e1
 exact e1.symm
theorem EP.gcd {W : Nat → Nat} : ∀ (N p q : Nat), p + q ≤ N → EP W p → EP W q → EP W (Nat.gcd p q)
 | 0, p, q, hN, h1, h2 => by
  have : p = 0 := by omega
  subst this; rw [Nat.gcd_zero_left]; exact h2
 | N + 1, p, q, hN, h1, h2 => by
  by_cases hp : p = 0
  ·subst hp; rw [Nat.gcd_zero_left]; exact h2
  by_cases hq : q = 0
  ·subst hq; rw [Nat.gcd_zero_right]; exact h1
  by_cases h : p ≤ q
  ·have h3 := EP.gcd N p (q - p) (by omega) h1 (EP.sub h h2 h1)
   rwa [show Nat.gcd p (q - p) = Nat.gcd p q by rw [← Nat.gcd_add_self_right p (q - p), Nat.sub_add_cancel h]] at h3
  ·have h3 := EP.gcd N (p - q) q (by omega) (EP.sub (by omega) h1 h2) h2
   rwa [show Nat.gcd (p - q) q = Nat.gcd p q by rw [Nat.gcd_comm, ← Nat.gcd_add_self_right q (p - q), Nat.sub_add_cancel (by omega), Nat.gcd_comm]] at h3
theorem La.ep {l : La} (h : 0 < l.loop.length) : EP l.at l.loop.length := ⟨l.pre.length, fun i hi => by
 obtain ⟨j, rfl⟩ := Nat.exists_eq_add_of_le hi
 rw [Nat.add_assoc, La.at_u h, La.at_u h, La.u_per]⟩
theorem IsCanon.ep {l : La} (h : IsCanon l) {d : Nat} (hd : 0 < d) (hdv : d ∣ l.loop.length) (he : EP l.at d) : d = l.loop.length := by
 refine h.prim d hd hdv fun i => ?_
 obtain ⟨N, hN⟩ := he
 have h1 := hN (l.pre.length + (i + l.loop.length * N)) (by have := Nat.le_mul_of_pos_left N h.pos; omega)
 rw [show l.pre.length + (i + l.loop.length * N) + d = l.pre.length + (i + d + l.loop.length * N) by omega, La.at_u h.pos, La.at_u h.pos, La.u_perN, La.u_perN] at h1
 exact h1
structure CanP (l : La) (q n a : Nat) : Prop where
 nl : n ≤ l.pre.length
 a0 : 0 < a
 aq : a ≤ q
 tail : ∀ i, n ≤ i → l.at i = l.loop.getD ((a + (i - n)) % q) 0
theorem CanP.start {l : La} {q : Nat} (h0 : 0 < l.loop.length) (hr : Root (fun i => l.loop.getD i 0) l.loop.length q) : CanP l q l.pre.length q := by
 refine ⟨Nat.le_refl _, hr.pos, Nat.le_refl _, fun i hi => ?_⟩
 obtain ⟨j, rfl⟩ := Nat.exists_eq_add_of_le hi
 rw [La.at_u h0, Nat.add_sub_cancel_left, Nat.add_mod_left]
 unfold La.u
 have := hr.rep (j % l.loop.length) (Nat.mod_lt _ h0)
 rw [this, Nat.mod_mod_of_dvd _ hr.dvd]
theorem CanP.step {l : La} {q n a : Nat} (h : CanP l q n a) (hn : 0 < n) (he : l.pre.getD (n - 1) 0 = l.loop.getD ((a - 1) % q) 0) : CanP l q (n - 1) (if a - 1 = 0 then q else a - 1) := by
 have h1 := h.nl; have h2 := h.a0; have h3 := h.aq
 refine ⟨by omega, by split <;> omega, by split <;> omega, fun i hi => ?_⟩
 by_cases e : i = n - 1
 ·subst e
  have : l.at (n - 1) = l.pre.getD (n - 1) 0 := by unfold La.at; rw [if_pos (by omega)]
  rw [this, he, Nat.sub_self, Nat.add_zero]
  split
  ·rename_i e; rw [e, Nat.zero_mod, Nat.mod_self]
  ·rfl
 ·rw [h.tail i (by omega)]
  split
  ·rw [show i - (n - 1) = i - n + 1 by omega, show a + (i - n) = i - n + 1 by omega, Nat.add_mod_left]
  ·rw [show a - 1 + (i - (n - 1)) = a + (i - n) by omega]
theorem rot_get {s : List Nat} {a : Nat} (ha : a < s.length) (i : Nat) (hi : i < s.length) : (s.drop a ++ s.take a).getD i 0 = s.getD ((a + i) % s.length) 0 := by
 rw [List.getD_eq_getElem?_getD, List.getD_eq_getElem?_getD]
 by_cases h : i < s.length - a
 ·rw [List.getElem?_append_left (by simpa using h), List.getElem?_drop, Nat.mod_eq_of_lt (by omega)]
 ·rw [List.getElem?_append_right (by simp; omega), List.length_drop, List.getElem?_take, if_pos (by omega)]
  congr 2
  rw [show a + i = (i - (s.length - a)) + s.length by omega, Nat.add_mod_right, Nat.mod_eq_of_lt (by omega)]
structure CanonOf (l c : La) : Prop where
 can : IsCanon c
 at_ : ∀ i, c.at i = l.at i
 pre : c.pre.length ≤ l.pre.length
 loop : c.loop.length ≤ l.loop.length
 mp : ∀ x ∈ c.pre, x ∈ l.pre
 ml : ∀ x ∈ c.loop, x ∈ l.loop
theorem canon_of {l : La} {q n a : Nat} (h0 : 0 < l.loop.length) (hr : Root (fun i => l.loop.getD i 0) l.loop.length q) (h : CanP l q n a) (hx : 0 < n → l.pre.getD (n - 1) 0 ≠ l.loop.getD ((a - 1) % q) 0) :
  CanonOf l ⟨l.pre.take n, (l.loop.take q).drop (a % q) ++ (l.loop.take q).take (a % q)⟩ := by
 have hq := hr.pos
 have hql : q ≤ l.loop.length := Nat.le_of_dvd h0 hr.dvd
 have hn := h.nl; have ha0 := h.a0; have haq := h.aq
 have hm : a % q < q := Nat.mod_lt _ hq
 have hsl : (l.loop.take q).length = q := by rw [List.length_take]; omega
 have hlen : ((l.loop.take q).drop (a % q) ++ (l.loop.take q).take (a % q)).length = q := by
  rw [List.length_append, List.length_drop, hsl, List.length_take, hsl]; omega
 have hpl : (l.pre.take n).length = n := by rw [List.length_take]; omega
 have hget : ∀ i, i < q → ((l.loop.take q).drop (a % q) ++ (l.loop.take q).take (a % q)).getD i 0 = l.loop.getD ((a + i) % q) 0 := fun i hi => by
  rw [rot_get (by rw [hsl]; exact hm) i (by rw [hsl]; exact hi), hsl, Nat.mod_add_mod]
  rw [List.getD_eq_getElem?_getD, List.getElem?_take, if_pos (Nat.mod_lt _ hq), List.getD_eq_getElem?_getD]
 have hat : ∀ i, (⟨l.pre.take n, (l.loop.take q).drop (a % q) ++ (l.loop.take q).take (a % q)⟩ : La).at i = l.at i := fun i => by
  by_cases hi : i < n
  ·rw [La.at_pre (by simp only [hpl]; exact hi), La.at_pre (show i < l.pre.length by omega)]
   simp
  ·obtain ⟨j, rfl⟩ := Nat.exists_eq_add_of_le (show n ≤ i by omega)
   rw [h.tail _ (by omega), Nat.add_sub_cancel_left]
   have h1 := La.at_u (l := ⟨l.pre.take n, (l.loop.take q).drop (a % q) ++ (l.loop.take q).take (a % q)⟩) (by simp only [hlen]; exact hq) j
   simp only [hpl] at h1
   rw [h1]
   unfold La.u
   simp only [hlen]
   rw [hget _ (Nat.mod_lt _ hq), Nat.add_mod_mod]
 refine ⟨⟨by simp only [hlen]; exact hq, fun d hd hdv hu => ?_, fun hp => ?_⟩, hat, by simp only [hpl]; exact hn, by simp only [hlen]; exact hql, fun x hx => List.mem_of_mem_take hx, fun x hx => ?_⟩
 ·simp only [hlen] at hdv ⊢
  refine hr.prim d hd hdv fun i hi => ?_
  have hU : ∀ j, l.loop.getD ((a + (j + d)) % q) 0 = l.loop.getD ((a + j) % q) 0 := fun j => by
   have h1 := hu j
   unfold La.u at h1
   simp only [hlen] at h1
   rwa [hget _ (Nat.mod_lt _ hq), hget _ (Nat.mod_lt _ hq), Nat.add_mod_mod, Nat.add_mod_mod] at h1
  have hV : ∀ j, l.loop.getD ((j + d) % q) 0 = l.loop.getD (j % q) 0 := fun j => by
   have h1 := hU (j + (q - a))
   rw [show a + (j + (q - a) + d) = j + d + q by omega, show a + (j + (q - a)) = j + q by omega, Nat.add_mod_right, Nat.add_mod_right] at h1
   exact h1
  have hT : ∀ t j, l.loop.getD ((j + d * t) % q) 0 = l.loop.getD (j % q) 0 := by
   intro t
   induction t with
   | zero => intro j; rfl
   | succ t ih => intro j; rw [Nat.mul_succ, ← Nat.add_assoc, hV, ih]
  have h2 := hT (i / d) (i % d)
  rw [Nat.mod_add_div, Nat.mod_eq_of_lt hi, Nat.mod_eq_of_lt (Nat.lt_of_le_of_lt (Nat.mod_le i d) hi)] at h2
  exact h2
 ·simp only [hpl, hlen] at hp ⊢
  rw [hget (q - 1) (by omega)]
  have h1 : (l.pre.take n).getD (n - 1) 0 = l.pre.getD (n - 1) 0 := by
   rw [List.getD_eq_getElem?_getD, List.getElem?_take, if_pos (by omega), List.getD_eq_getElem?_getD]
  rw [h1, show a + (q - 1) = a - 1 + q by omega, Nat.add_mod_right]
  exact hx hp
 ·rcases List.mem_append.1 hx with hx | hx
  ·exact List.mem_of_mem_take (List.mem_of_mem_drop hx)
  ·exact List.mem_of_mem_take (List.mem_of_mem_take hx)
end Go.Lx


namespace Go.Lx
def visL (d : DFA) : Nat → List Nat → List Nat
 | _, [] => []
 | s, x :: w => toN d s x :: visL d (toN d s x) w
theorem visL_len (d : DFA) : ∀ (w : List Nat) (s : Nat), (visL d s w).length = w.length
 | [], _ => rfl
 | x :: w, s => by show (visL d (toN d s x) w).length + 1 = w.length + 1; rw [visL_len d w]
theorem visL_app (d : DFA) : ∀ (u v : List Nat) (s : Nat), visL d s (u ++ v) = visL d s u ++ visL d (runN d s u) v
 | [], _, _ => rfl
 | x :: u, v, s => by show _ :: visL d _ (u ++ v) = _; rw [visL_app d u v]; rfl
theorem visL_get (d : DFA) : ∀ (w : List Nat) (s r : Nat), r < w.length → (visL d s w)[r]? = some (runN d s (w.take (r + 1)))
 | [], _, _, h => by simp at h
 | x :: w, s, 0, _ => by simp [visL, runN]
 | x :: w, s, r + 1, h => by
  have ih := visL_get d w (toN d s x) r (by simpa using h)
  show (visL d (toN d s x) w)[r]? = _
  rw [ih]; rfl
def topP (p : Par) (s : Nat) (w : List Nat) : Nat := ((visL p.d s w).map (prN p)).foldl max 0
theorem foldl_max0 : ∀ (l : List Nat) (a : Nat), l.foldl max a = max a (l.foldl max 0)
 | [], a => by simp
 | x :: l, a => by
  show l.foldl max (max a x) = max a (l.foldl max (max 0 x))
  rw [foldl_max0 l (max a x), foldl_max0 l (max 0 x)]; omega
theorem le_foldl_max {l : List Nat} {x : Nat} (h : x ∈ l) : x ≤ l.foldl max 0 := by
 induction l with
 | nil => cases h
 | cons a l ih =>
  show x ≤ l.foldl max (max 0 a)
  rw [foldl_max0]
  rcases List.mem_cons.1 h with rfl | h
  ·omega
  ·have := ih h; omega
theorem foldl_max_mem {l : List Nat} (h : l ≠ []) : l.foldl max 0 ∈ l := by
 induction l with
 | nil => exact absurd rfl h
 | cons a l ih =>
  show l.foldl max (max 0 a) ∈ _
  rw [foldl_max0]
  cases l with
  | nil => simp
  | cons b l =>
   have := ih (by simp)
   rcases Nat.le_total (max 0 a) ((b :: l).foldl max 0) with h1 | h1
   ·rw [Nat.max_eq_right h1]; exact List.mem_cons_of_mem _ this
   ·rw [Nat.max_eq_left h1]; simp
theorem foldl_max_app (l m : List Nat) : (l ++ m).foldl max 0 = max (l.foldl max 0) (m.foldl max 0) := by
 rw [List.foldl_append, foldl_max0]
theorem foldl_max_le {l : List Nat} {b : Nat} (h : ∀ x ∈ l, x ≤ b) : l.foldl max 0 ≤ b := by
 cases l with
 | nil => exact Nat.zero_le _
 | cons a l => exact h _ (foldl_max_mem (by simp))
theorem topP_app (p : Par) (s : Nat) (u v : List Nat) : topP p s (u ++ v) = max (topP p s u) (topP p (runN p.d s u) v) := by
 unfold topP; rw [visL_app, List.map_append, foldl_max_app]
theorem topP_snoc (p : Par) (s : Nat) (u : List Nat) (x : Nat) : topP p s (u ++ [x]) = max (topP p s u) (prN p (runN p.d s (u ++ [x]))) := by
 rw [topP_app, runN_snoc]; simp [topP, visL]
def stA (d : DFA) (a : Nat → Nat) : Nat → Nat
 | 0 => d.start.toNat
 | k + 1 => toN d (stA d a k) (a k)
def IsInf (p : Par) (a : Nat → Nat) (m : Nat) : Prop := (∃ K, ∀ k, K ≤ k → prN p (stA p.d a k) ≤ m) ∧ ∀ K, ∃ k, K ≤ k ∧ prN p (stA p.d a k) = m
theorem IsInf.unique {p : Par} {a : Nat → Nat} {m k : Nat} (h : IsInf p a m) (g : IsInf p a k) : m = k := by
 obtain ⟨⟨K, hK⟩, h2⟩ := h
 obtain ⟨⟨J, hJ⟩, g2⟩ := g
 obtain ⟨i, hi, e⟩ := h2 J
 obtain ⟨j, hj, f⟩ := g2 K
 have := hJ i hi
 have := hK j hj
 omega
theorem IsInf.congr {p : Par} {a b : Nat → Nat} {m : Nat} (h : IsInf p a m) (e : ∀ i, a i = b i) : IsInf p b m := by
 have : a = b := funext e
 rw [← this]; exact h
noncomputable def infP (p : Par) (a : Nat → Nat) : Nat := @Classical.epsilon Nat ⟨0⟩ (IsInf p a)
theorem infP_eq {p : Par} {a : Nat → Nat} {m : Nat} (h : IsInf p a m) : infP p a = m := (Classical.epsilon_spec (p := IsInf p a) ⟨m, h⟩).unique h
theorem cyc_state {d : DFA} {a : Nat → Nat} {P0 : Nat} {W : List Nat} (h0 : 0 < W.length) (hr : runN d (stA d a P0) W = stA d a P0) (hw : ∀ t r, r < W.length → a (P0 + (t * W.length + r)) = W.getD r 0) : ∀ t r, r ≤ W.length → stA d a (P0 + (t * W.length + r)) = runN d (stA d a P0) (W.take r) := by
 intro t
 induction t with
 | zero =>
  intro r
  induction r with
  | zero => intro _; simp [runN]
  | succ r ih =>
   intro hr1
   have := hw 0 r (by omega)
   show toN d (stA d a (P0 + (0 * W.length + r))) (a (P0 + (0 * W.length + r))) = _
   rw [ih (by omega), this, List.take_succ_eq_append_getElem (show r < W.length by omega), runN_snoc]
   rw [List.getD_eq_getElem?_getD, List.getElem?_eq_getElem (show r < W.length by omega)]; rfl
 | succ t iht =>
  intro r
  induction r with
  | zero =>
   intro _
   have := iht W.length (Nat.le_refl _)
   rw [List.take_of_length_le (Nat.le_refl _), hr] at this
   rw [show P0 + ((t + 1) * W.length + 0) = P0 + (t * W.length + W.length) by rw [Nat.succ_mul]; omega, this]; simp [runN]
  | succ r ih =>
   intro hr1
   have := hw (t + 1) r (by omega)
   show toN d (stA d a (P0 + ((t + 1) * W.length + r))) (a (P0 + ((t + 1) * W.length + r))) = _
   rw [ih (by omega), this, List.take_succ_eq_append_getElem (show r < W.length by omega), runN_snoc]
   rw [List.getD_eq_getElem?_getD, List.getElem?_eq_getElem (show r < W.length by omega)]; rfl
theorem cyc_inf {p : Par} {a : Nat → Nat} {P0 : Nat} {W : List Nat} (h0 : 0 < W.length) (hr : runN p.d (stA p.d a P0) W = stA p.d a P0) (hw : ∀ t r, r < W.length → a (P0 + (t * W.length + r)) = W.getD r 0) : IsInf p a (topP p (stA p.d a P0) W) := by
 have hs := cyc_state h0 hr hw
 have hvm : ∀ r, r < W.length → prN p (runN p.d (stA p.d a P0) (W.take (r + 1))) ∈ (visL p.d (stA p.d a P0) W).map (prN p) := fun r hr => List.mem_map.2 ⟨_, List.mem_of_getElem? (visL_get p.d W _ r hr), rfl⟩
 constructor
 ·refine ⟨P0, fun k hk => ?_⟩
  have hm := Nat.mod_lt (k - P0) h0
  have he : k = P0 + ((k - P0) / W.length * W.length + (k - P0) % W.length) := by
   have := Nat.div_add_mod (k - P0) W.length
   rw [Nat.mul_comm] at this; omega
  rw [he, hs _ _ (Nat.le_of_lt hm)]
  by_cases hz : (k - P0) % W.length = 0
  ·rw [hz]
   have h1 := hvm (W.length - 1) (by omega)
   rw [show W.length - 1 + 1 = W.length by omega, List.take_of_length_le (Nat.le_refl _), hr] at h1
   exact le_foldl_max (by simpa [runN] using h1)
  ·have h1 := hvm ((k - P0) % W.length - 1) (by omega)
   rw [show (k - P0) % W.length - 1 + 1 = (k - P0) % W.length by omega] at h1
   exact le_foldl_max h1
 ·intro K
  have hne : (visL p.d (stA p.d a P0) W).map (prN p) ≠ [] := fun e => by
   have := congrArg List.length e
   rw [List.length_map, visL_len, List.length_nil] at this; omega
  obtain ⟨q, hq, e⟩ := List.mem_map.1 (foldl_max_mem hne)
  obtain ⟨r, hr2⟩ := List.mem_iff_getElem?.1 hq
  have hrl : r < W.length := by have := (List.getElem?_eq_some_iff.1 hr2).1; rwa [visL_len] at this
  rw [visL_get p.d W _ r hrl] at hr2
  obtain rfl := Option.some.inj hr2
  refine ⟨P0 + (K * W.length + (r + 1)), ?_, ?_⟩
  ·have h9 := Nat.le_mul_of_pos_right K h0
   obtain ⟨z, hz⟩ : ∃ z, K * W.length = z := ⟨_, rfl⟩
   rw [hz] at h9 ⊢; omega
  ·rw [hs K (r + 1) (by omega)]; exact e
def repL (w : List Nat) : Nat → List Nat
 | 0 => []
 | m + 1 => repL w m ++ w
theorem repL_len (w : List Nat) : ∀ m, (repL w m).length = m * w.length
 | 0 => by simp [repL]
 | m + 1 => by rw [repL, List.length_append, repL_len w m, Nat.succ_mul]
theorem repL_get {w : List Nat} (h : 0 < w.length) : ∀ m r, r < m * w.length → (repL w m).getD r 0 = w.getD (r % w.length) 0
 | 0, r, hr => by simp at hr
 | m + 1, r, hr => by
  rw [repL]
  simp only [List.getD_eq_getElem?_getD]
  by_cases hm : r < m * w.length
  ·have := repL_get h m r hm
   simp only [List.getD_eq_getElem?_getD] at this
   rw [List.getElem?_append_left (by rw [repL_len]; exact hm), this]
  ·rw [List.getElem?_append_right (by rw [repL_len]; omega), repL_len]
   congr 2
   rw [Nat.succ_mul] at hr
   have e : r = (r - m * w.length) + w.length * m := by rw [Nat.mul_comm w.length]; omega
   conv => rhs; rw [e]
   rw [Nat.add_mul_mod_self_left, Nat.mod_eq_of_lt (by omega)]
def orbN (d : DFA) (w : List Nat) (s : Nat) : Nat → Nat
 | 0 => s
 | k + 1 => runN d (orbN d w s k) w
theorem orb_rep (d : DFA) (w : List Nat) (s : Nat) : ∀ m, runN d s (repL w m) = orbN d w s m
 | 0 => rfl
 | m + 1 => by rw [repL, orbN, ← orb_rep d w s m]; unfold runN; rw [List.foldl_append]
theorem orb_add (d : DFA) (w : List Nat) (s j : Nat) : ∀ m, orbN d w (orbN d w s j) m = orbN d w s (j + m)
 | 0 => rfl
 | m + 1 => by rw [orbN, orb_add d w s j m]; rfl
theorem stA_word (d : DFA) (l : La) : ∀ k, k ≤ l.pre.length → stA d l.at k = runN d d.start.toNat (l.pre.take k)
 | 0, _ => by simp [stA, runN]
 | k + 1, hk => by
  rw [stA, stA_word d l k (by omega), List.take_succ_eq_append_getElem (show k < l.pre.length by omega), runN_snoc]
  unfold La.at
  rw [if_pos (by omega), List.getD_eq_getElem?_getD, List.getElem?_eq_getElem (by omega)]; rfl
theorem stA_loop {d : DFA} {l : La} (h : 0 < l.loop.length) (s0 : Nat) (hs : s0 = runN d d.start.toNat l.pre) : ∀ j r, r ≤ l.loop.length → stA d l.at (l.pre.length + (j * l.loop.length + r)) = runN d (orbN d l.loop s0 j) (l.loop.take r) := by
 have h00 : stA d l.at l.pre.length = s0 := by rw [stA_word d l _ (Nat.le_refl _), List.take_of_length_le (Nat.le_refl _), hs]
 have step : ∀ j r, r < l.loop.length → l.at (l.pre.length + (j * l.loop.length + r)) = l.loop.getD r 0 := fun j r hr => by
  rw [La.at_u h]; unfold La.u
  rw [Nat.mul_comm, Nat.mul_add_mod, Nat.mod_eq_of_lt hr]
 intro j
 induction j with
 | zero =>
  intro r
  induction r with
  | zero => intro _; simp [h00, orbN, runN]
  | succ r ih =>
   intro hr
   show toN d (stA d l.at (l.pre.length + (0 * l.loop.length + r))) (l.at (l.pre.length + (0 * l.loop.length + r))) = _
   rw [ih (by omega), step 0 r (by omega), List.take_succ_eq_append_getElem (show r < l.loop.length by omega), runN_snoc]
   rw [List.getD_eq_getElem?_getD, List.getElem?_eq_getElem (show r < l.loop.length by omega)]; rfl
 | succ j ihj =>
  intro r
  induction r with
  | zero =>
   intro _
   have := ihj l.loop.length (Nat.le_refl _)
   rw [List.take_of_length_le (Nat.le_refl _)] at this
   rw [show l.pre.length + ((j + 1) * l.loop.length + 0) = l.pre.length + (j * l.loop.length + l.loop.length) by rw [Nat.succ_mul]; omega, this]; simp [runN, orbN]
  | succ r ih =>
   intro hr
   show toN d (stA d l.at (l.pre.length + ((j + 1) * l.loop.length + r))) (l.at (l.pre.length + ((j + 1) * l.loop.length + r))) = _
   rw [ih (by omega), step (j + 1) r (by omega), List.take_succ_eq_append_getElem (show r < l.loop.length by omega), runN_snoc]
   rw [List.getD_eq_getElem?_getD, List.getElem?_eq_getElem (show r < l.loop.length by omega)]; rfl
theorem lasso_inf {p : Par} {l : La} (h : 0 < l.loop.length) {s0 j m : Nat} (hs : s0 = runN p.d p.d.start.toNat l.pre) (hm : 0 < m) (he : orbN p.d l.loop s0 (j + m) = orbN p.d l.loop s0 j) : IsInf p l.at (topP p (orbN p.d l.loop s0 j) (repL l.loop m)) := by
 have hst : stA p.d l.at (l.pre.length + j * l.loop.length) = orbN p.d l.loop s0 j := by
  have := stA_loop h s0 hs j 0 (Nat.zero_le _)
  simpa [runN] using this
 have hlen := repL_len l.loop m
 have hpos : 0 < (repL l.loop m).length := by rw [hlen]; exact Nat.mul_pos hm h
 have := cyc_inf (p := p) (a := l.at) (P0 := l.pre.length + j * l.loop.length) (W := repL l.loop m) hpos (by rw [hst, orb_rep, orb_add, he]) (fun t r hr => by
  rw [hlen] at hr
  rw [repL_get h m r hr, Nat.add_assoc, La.at_u h, hlen]
  unfold La.u
  congr 1
  rw [show j * l.loop.length + (t * (m * l.loop.length) + r) = r + l.loop.length * (j + t * m) by rw [Nat.mul_add, Nat.mul_comm l.loop.length j, ← Nat.mul_assoc, Nat.mul_comm l.loop.length (t * m)]; omega, Nat.add_mul_mod_self_left])
 rwa [hst] at this
theorem top_rounds (p : Par) (w : List Nat) (s : Nat) : ∀ m, topP p s (repL w m) = ((List.range m).map fun k => topP p (orbN p.d w s k) w).foldl max 0
 | 0 => rfl
 | m + 1 => by
  rw [repL, topP_app, top_rounds p w s m, orb_rep, List.range_succ, List.map_append, foldl_max_app]; simp
end Go.Lx


namespace Go.Lx
open Go.RowKit
abbrev KIn : Int → Value := fun a : Int => Value.int .i64 a
theorem lookY_some {α β : Type} [DecidableEq α] {a : α} {v : β} : ∀ {l : List (α × β)}, lookL a l = some v → (a, v) ∈ l
 | q :: l, h => by
  unfold lookL at h
  by_cases e : a = q.1
  ·rw [if_pos e] at h; obtain rfl := Option.some.inj h; rw [e]; exact List.mem_cons_self
  ·rw [if_neg e] at h; exact List.mem_cons_of_mem _ (lookY_some h)
theorem lookY_none {α β : Type} [DecidableEq α] {a : α} : ∀ {l : List (α × β)}, lookL a l = none → a ∉ l.map Prod.fst
 | [], _ => by simp
 | q :: l, h => by
  unfold lookL at h
  by_cases e : a = q.1
  ·rw [if_pos e] at h; cases h
  ·rw [if_neg e] at h
   rw [List.map_cons, List.mem_cons]
   exact fun g => g.elim e (lookY_none h)
def mpR (d : DFA) (w : List Nat) (s J : Nat) : List (Int × Int) := (List.range J).map fun j => (((orbN d w s j : Nat) : Int), ((j : Nat) : Int))
theorem mpR_succ (d : DFA) (w : List Nat) (s J : Nat) : mpR d w s (J + 1) = mpR d w s J ++ [(((orbN d w s J : Nat) : Int), ((J : Nat) : Int))] := by
 unfold mpR; rw [List.range_succ, List.map_append]; rfl
theorem mpR_hit {d : DFA} {w : List Nat} {s J x : Nat} {v : Int} (h : lookL ((x : Nat) : Int) (mpR d w s J) = some v) : ∃ j : Nat, j < J ∧ v = (j : Int) ∧ orbN d w s j = x := by
 obtain ⟨j, hj, e⟩ := List.mem_map.1 (lookY_some h)
 simp only [Prod.mk.injEq] at e
 exact ⟨j, List.mem_range.1 hj, e.2.symm, by omega⟩
theorem mpR_none {d : DFA} {w : List Nat} {s J x : Nat} (h : lookL ((x : Nat) : Int) (mpR d w s J) = none) : ∀ j, j < J → orbN d w s j ≠ x := fun j hj e => lookY_none h (by
 rw [← e]; exact List.mem_map.2 ⟨_, List.mem_map.2 ⟨j, List.mem_range.2 hj, rfl⟩, rfl⟩)
theorem mpR_fresh {d : DFA} {w : List Nat} {s J : Nat} (h : ∀ j, j < J → orbN d w s j ≠ orbN d w s J) : ((orbN d w s J : Nat) : Int) ∉ (mpR d w s J).map Prod.fst := fun hm => by
 obtain ⟨q, hq, e⟩ := List.mem_map.1 hm
 obtain ⟨j, hj, rfl⟩ := List.mem_map.1 hq
 exact h j (List.mem_range.1 hj) (by simp only at e; omega)
def OrbD (d : DFA) (w : List Nat) (s J : Nat) : Prop := ∀ i j, i < j → j < J → orbN d w s i ≠ orbN d w s j
theorem OrbD.zero (d : DFA) (w : List Nat) (s : Nat) : OrbD d w s 0 := fun i j _ h => by omega
theorem OrbD.succ {d : DFA} {w : List Nat} {s J : Nat} (h : OrbD d w s J) (hn : ∀ j, j < J → orbN d w s j ≠ orbN d w s J) : OrbD d w s (J + 1) := fun i j hij hj => by
 by_cases e : j = J
 ·subst e; exact hn i hij
 ·exact h i j hij (by omega)
theorem orbN_lt {d : DFA} (hv : Val d) {w : List Nat} (hw : Wd d w) {s : Nat} (hs : s < d.next.length) : ∀ j, orbN d w s j < d.next.length
 | 0 => hs
 | j + 1 => runN_lt hv (orbN_lt hv hw hs j) w hw
theorem OrbD.le {d : DFA} (hv : Val d) {w : List Nat} (hw : Wd d w) {s J : Nat} (hs : s < d.next.length) (h : OrbD d w s J) : J ≤ d.next.length := by
 have h1 : ((List.range J).map (orbN d w s)).Nodup := by
  refine List.pairwise_map.2 ?_
  exact (List.pairwise_lt_range (n := J)).imp_of_mem (fun {i j} _ hj hij => h i j hij (List.mem_range.1 hj))
 have := nodup_bound h1 (n := d.next.length) (fun x hx => by
  obtain ⟨j, _, rfl⟩ := List.mem_map.1 hx
  exact orbN_lt hv hw hs j)
 rwa [List.length_map, List.length_range] at this
def topL (p : Par) (w : List Nat) (s J : Nat) : List Int := (List.range J).map fun j => ((topP p (orbN p.d w s j) w : Nat) : Int)
theorem topL_succ (p : Par) (w : List Nat) (s J : Nat) : topL p w s (J + 1) = topL p w s J ++ [((topP p (orbN p.d w s J) w : Nat) : Int)] := by
 unfold topL; rw [List.range_succ, List.map_append]; rfl
theorem topL_len (p : Par) (w : List Nat) (s J : Nat) : (topL p w s J).length = J := by unfold topL; simp
theorem topL_drop {p : Par} {w : List Nat} {s J j : Nat} (hj : j ≤ J) : (topL p w s J).drop j = topL p w (orbN p.d w s j) (J - j) := by
 unfold topL
 apply List.ext_getElem (by simp)
 intro k h1 h2
 simp only [List.getElem_drop, List.getElem_map, List.getElem_range]
 rw [orb_add]
theorem top_max {p : Par} {w : List Nat} {s n : Nat} {m : Int} (hm : m ∈ topL p w s n) (ha : ∀ x ∈ topL p w s n, x ≤ m) : m = ((topP p s (repL w n) : Nat) : Int) := by
 rw [top_rounds]
 unfold topL at hm ha
 obtain ⟨k, hk, rfl⟩ := List.mem_map.1 hm
 have h1 : topP p (orbN p.d w s k) w ≤ ((List.range n).map fun k => topP p (orbN p.d w s k) w).foldl max 0 := le_foldl_max (List.mem_map.2 ⟨k, hk, rfl⟩)
 have h2 : ((List.range n).map fun k => topP p (orbN p.d w s k) w).foldl max 0 ≤ topP p (orbN p.d w s k) w := foldl_max_le (fun x hx => by
  obtain ⟨i, hi, rfl⟩ := List.mem_map.1 hx
  have := ha _ (List.mem_map.2 ⟨i, hi, rfl⟩); omega)
 omega
theorem run_hit {p : Par} {l : La} (h0 : 0 < l.loop.length) {j J : Nat} (hj : j < J) (he : orbN p.d l.loop (runN p.d p.d.start.toNat l.pre) j = orbN p.d l.loop (runN p.d p.d.start.toNat l.pre) J) {m : Int}
  (hm : m ∈ (topL p l.loop (runN p.d p.d.start.toNat l.pre) J).drop j) (ha : ∀ x ∈ (topL p l.loop (runN p.d p.d.start.toNat l.pre) J).drop j, x ≤ m) : m = ((infP p l.at : Nat) : Int) := by
 rw [topL_drop (by omega)] at hm ha
 rw [top_max hm ha, infP_eq (lasso_inf h0 rfl (j := j) (m := J - j) (by omega) (by rw [show j + (J - j) = J by omega]; exact he.symm))]
def ruE (p : Par) (l : La) : Nat := if checkP p ≠ 0 then checkP p else checkLV p.vars l
noncomputable def ruV (p : Par) (l : La) : Nat := if ruE p l = 0 then infP p l.at else 0
theorem ruE_zero {p : Par} {l : La} : ruE p l = 0 ↔ ValidP p ∧ checkLV p.vars l = 0 := by
 unfold ruE
 by_cases h : checkP p = 0
 ·rw [if_neg (by simp [h])]; exact ⟨fun g => ⟨checkP_zero.1 h, g⟩, fun g => g.2⟩
 ·rw [if_pos h]; exact ⟨fun g => absurd g h, fun g => absurd (checkP_zero.2 g.1) h⟩
structure LaV (d : DFA) (l : La) : Prop where
 l0 : 0 < l.loop.length
 p64 : l.pre.length ≤ 64
 l64 : l.loop.length ≤ 64
 pw : Wd d l.pre
 lw : Wd d l.loop
theorem laV_of {p : Par} {l : La} (hp : ValidP p) (h : checkLV p.vars l = 0) : LaV p.d l := by
 have h0 : 0 ≤ p.vars := hp.val.v0
 have h6 : p.vars ≤ 6 := hp.val.v6
 unfold checkLV checkL at h
 rw [if_neg (by omega)] at h
 split at h; · cases h
 split at h; · cases h
 split at h
 ·rename_i h1 h2 h3
  have hw : ∀ x, decide (x < 2 ^ p.vars.toNat) = true → x < letN p.d := fun x hx => of_decide_eq_true hx
  exact ⟨by omega, by omega, by omega, fun x hx => hw x (List.all_eq_true.1 h3.1 x hx), fun x hx => hw x (List.all_eq_true.1 h3.2 x hx)⟩
 ·cases h
theorem LaV.zero {p : Par} {l : La} (hp : ValidP p) (h : LaV p.d l) : checkLV p.vars l = 0 := by
 have h0 : 0 ≤ p.vars := hp.val.v0
 have h6 : p.vars ≤ 6 := hp.val.v6
 have := h.l0; have := h.p64; have := h.l64
 unfold checkLV checkL
 rw [if_neg (by omega), if_neg (by omega), if_neg (by omega), if_pos ⟨List.all_eq_true.2 fun x hx => decide_eq_true (h.pw x hx), List.all_eq_true.2 fun x hx => decide_eq_true (h.lw x hx)⟩]
theorem Sl.idrop {w : World} {b : Option Addr} {xs : List Int} (h : Sl w b (ints xs)) {c : Nat} (lo : Nat) (hc : xs.length ≤ c) : Sl w (subB b c lo 1) (ints (xs.drop lo)) := by
 have h1 := h.sub c lo 1 xs.length (fun e => by subst e; rw [Nat.mul_one, List.drop_eq_nil_of_le (by rw [List.length_map]; exact hc), List.take_nil])
 rw [Nat.mul_one, ← List.map_drop, List.take_of_length_le (by rw [List.length_map, List.length_drop]; omega)] at h1
 exact h1
theorem topP_at {p : Par} {s : Nat} {w : List Nat} {i : Nat} (hi : i < w.length) : topP p s (w.take (i + 1)) = max (topP p s (w.take i)) (prN p (runN p.d s (w.take (i + 1)))) := by
 rw [List.take_succ_eq_append_getElem hi]; exact topP_snoc p s _ _
theorem runN_at {d : DFA} {s : Nat} {w : List Nat} {i : Nat} (hi : i < w.length) : runN d s (w.take (i + 1)) = toN d (runN d s (w.take i)) w[i] := by
 rw [List.take_succ_eq_append_getElem hi]; unfold runN; rw [List.foldl_append]; rfl
theorem ValidP.to {p : Par} (h : ValidP p) {s x : Nat} (hs : s < p.next.length) (hx : x < letN p.d) : toN p.d s x < p.next.length ∧ ∃ hk : x < p.next[s].length, (ints p.next[s])[x]? = some (.int .i64 ((toN p.d s x : Nat) : Int)) ∧ p.next[s][x] = ((toN p.d s x : Nat) : Int) := by
 obtain ⟨h1, _, h3, h4⟩ := h.val.toN_lt (show s < p.d.next.length from hs) hx
 have e := ints_get (xs := p.d.next[s]) h3
 rw [h4] at e
 exact ⟨h1, h3, e, h4⟩
theorem Wd.take {d : DFA} {w : List Nat} (h : Wd d w) (i : Nat) : Wd d (w.take i) := fun x hx => h x (List.mem_of_mem_take hx)
theorem T.nilP {P : Program} {r : Option Nat} {base : World} {n : Nat} {c : Code} {Q : Post} {ρ : Env} {O : List Item} (II I : TypeId) (h : T P r base n c Q ρ (pI II I noP k00 :: O)) : T P r base n c Q ρ O :=
 T.nilRow I 1 (T.nilRow II 1 (T.pack (φ := nums k00.qs = noP.next) (L := [rowI none 0 II 1 [], rowI none 0 I 1 []] ++ []) (M := O) rfl h))
theorem coE_bad {p : Par} (h : checkP p ≠ 0) : coE p = checkP p ∧ coV p = noP := by
 have e : coE p = checkP p := if_pos h
 exact ⟨e, if_neg (by rw [e]; exact h)⟩
theorem coE_long {p : Par} (h : checkP p = 0) (hm : (16 : Int) ∈ p.prio) : coE p = 4 ∧ coV p = noP := by
 have e : coE p = 4 := by unfold coE; rw [if_neg (by simp [h]), if_pos hm]
 exact ⟨e, if_neg (by rw [e]; decide)⟩
theorem coE_ok {p : Par} (h : checkP p = 0) (hm : (16 : Int) ∉ p.prio) : coE p = 0 ∧ coV p = withP p (fun s => ((prN p s + 1 : Nat) : Int)) := by
 have e : coE p = 0 := by unfold coE; rw [if_neg (by simp [h]), if_neg hm]
 exact ⟨e, if_pos e⟩
def parsC (qs : List (Par × DK)) : List Value := qs.flatMap fun q => pC q.1 q.2
theorem pars_get {qs : List (Par × DK)} {i : Nat} (h : i < qs.length) (j : Nat) (hj : j < 4) : (parsC qs)[i * 4 + j]? = (pC qs[i].1 qs[i].2)[j]? := flatL_get (F := fun q : Par × DK => pC q.1 q.2) (fun _ => rfl) h j hj
theorem pars_len (qs : List (Par × DK)) : (parsC qs).length = qs.length * 4 := flatL_len (F := fun q : Par × DK => pC q.1 q.2) (fun _ => rfl) qs
def longN (p : Par) : Bool := decide (12 < p.next.length ∨ 14 < p.prio.length)
def longP (p : Par) : Bool := longN p || p.next.any (fun r => decide (66 < r.length))
theorem longP_no {p : Par} (h : longP p = false) : p.next.length ≤ 12 ∧ p.prio.length ≤ 14 ∧ ∀ r ∈ p.next, r.length ≤ 66 := by
 unfold longP longN at h
 rw [Bool.or_eq_false_iff, decide_eq_false_iff_not, List.any_eq_false] at h
 refine ⟨by omega, by omega, fun r hr => ?_⟩
 have := h.2 r hr
 simpa using this
theorem lookY_put {α β : Type} [DecidableEq α] {a : α} {v : β} (s : α) : ∀ (l : List (α × β)), lookL s (putA a v l) = if s = a then some v else lookL s l
 | [] => by unfold putA lookL; rfl
 | q :: l => by
  have ih := lookY_put (a := a) (v := v) s l
  unfold putA
  by_cases e : a = q.1
  ·rw [if_pos e]; unfold lookL
   by_cases e2 : s = a
   ·rw [if_pos e2, if_pos (e2.trans e)]
   ·rw [if_neg e2, if_neg (fun h => e2 (h.trans e.symm)), if_neg (fun h => e2 (h.trans e.symm))]
  ·rw [if_neg e]; unfold lookL
   by_cases e2 : s = q.1
   ·rw [if_pos e2, if_pos e2, if_neg (fun h => e (h.symm.trans e2))]
   ·rw [if_neg e2, if_neg e2]; exact ih
theorem CallV.keepR {P : Program} {base : World} {fv : Value} {args : List Value} {A : List Item} {x : Value} (B : List Item) (h : CallV P base fv args A (fun v O' => v = x ∧ O' = A)) : CallV P base fv args (B ++ A) (fun v O' => v = x ∧ O' = B ++ A) :=
 (CallV.atR B h).mono fun v O9 ⟨A9, e1, e2, e3⟩ => ⟨e2, by rw [e1, e3]⟩
end Go.Lx


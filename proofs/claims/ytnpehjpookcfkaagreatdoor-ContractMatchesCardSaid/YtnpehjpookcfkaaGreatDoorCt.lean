/- Contracts of functions of the program (Bol5, Bol6, Bol7, P1, P2, P3, Bol8, P4, P5, Sho, Shw, C1, Con, BolA, BolC, BolD, Inz, Ct): what each call answers and that it leaves memory as it was. Conditions: those each theorem names. -/
import Derived.Test.YtnpehjpookcfkaaGreatDoorBol4
import Derived.Test.YtnpehjpookcfkaaGreatDoorAll
import Derived.Test.YtnpehjpookcfkaaGreatDoorCoreK
set_option linter.unusedSectionVars false
set_option linter.unusedSimpArgs false
set_option linter.unusedVariables false
set_option linter.unnecessarySimpa false
set_option maxHeartbeats 8000000
set_option maxRecDepth 20000
namespace Go.Lx
open Go.RowKit
set_option linter.unusedVariables false
theorem pr_toN_lt {f : Bool → Bool → Bool} {a b : DFA} (ha : Val a) (hb : Val b) (hv : a.vars = b.vars) {o x : Nat} (ho : o < a.next.length * b.next.length) (hx : x < letN a) :
    toN (prodD f a b) o x = toN a (o / b.next.length) x * b.next.length + toN b (o % b.next.length) x ∧ toN (prodD f a b) o x < a.next.length * b.next.length := by
  obtain ⟨h1, h2⟩ := pr_split ho
  have h3 := prod_step (f := f) (a := a) (b := b) h1 h2 hx
  rw [Nat.div_add_mod'] at h3
  refine ⟨h3, ?_⟩
  rw [h3]
  exact pr_lt (ha.toN_lt h1 hx).1 (hb.toN_lt h2 (by rw [← hv]; exact hx)).1
theorem pr_bfs_ok {f : Bool → Bool → Bool} {a b : DFA} (ha : Val a) (hb : Val b) (hv : a.vars = b.vars) : ∀ i, (bfsN (prodD f a b) i).Nodup ∧ ∀ o ∈ bfsN (prodD f a b) i, o < a.next.length * b.next.length
  | 0 => by
    refine ⟨by simp [bfsN], fun o ho => ?_⟩
    simp only [bfsN, List.mem_singleton] at ho
    rw [ho, show (prodD f a b).start.toNat = a.start.toNat * b.next.length + b.start.toNat from Int.toNat_natCast _]
    exact pr_lt (start_lt ha) (start_lt hb)
  | i + 1 => by
    obtain ⟨h1, h2⟩ := pr_bfs_ok ha hb hv i
    rw [bfsN]
    split
    · rename_i hi
      refine foldl_add_ok _ _ h1 h2 (fun t ht => ?_)
      obtain ⟨x, hx, rfl⟩ := List.mem_map.1 ht
      refine (pr_toN_lt ha hb hv (h2 _ ?_) (List.mem_range.1 hx)).2
      rw [List.getD_eq_getElem?_getD, List.getElem?_eq_getElem hi]
      exact List.getElem_mem hi
    · exact ⟨h1, h2⟩
theorem pr_bfs_len {f : Bool → Bool → Bool} {a b : DFA} (ha : Val a) (hb : Val b) (hv : a.vars = b.vars) (i : Nat) : (bfsN (prodD f a b) i).length ≤ a.next.length * b.next.length := nodup_bound (pr_bfs_ok ha hb hv i).1 (pr_bfs_ok ha hb hv i).2
theorem pr_bfsM_ok {f : Bool → Bool → Bool} {a b : DFA} (ha : Val a) (hb : Val b) (hv : a.vars = b.vars) {i o x : Nat} (ho : o < a.next.length * b.next.length) (hx : x ≤ letN a) :
    (bfsM (prodD f a b) i o x).Nodup ∧ ∀ t ∈ bfsM (prodD f a b) i o x, t < a.next.length * b.next.length := by
  obtain ⟨h1, h2⟩ := pr_bfs_ok (f := f) ha hb hv i
  exact foldl_add_ok _ _ h1 h2 (fun t ht => by
    obtain ⟨y, hy, rfl⟩ := List.mem_map.1 ht
    exact (pr_toN_lt ha hb hv ho (by have := List.mem_range.1 hy; omega)).2)
theorem pr_bfsM_len {f : Bool → Bool → Bool} {a b : DFA} (ha : Val a) (hb : Val b) (hv : a.vars = b.vars) {i o x : Nat} (ho : o < a.next.length * b.next.length) (hx : x ≤ letN a) :
    (bfsM (prodD f a b) i o x).length ≤ a.next.length * b.next.length := nodup_bound (pr_bfsM_ok ha hb hv ho hx).1 (pr_bfsM_ok ha hb hv ho hx).2
theorem bfsM_full {d : DFA} {i o : Nat} (h : (bfsN d i)[i]? = some o) : bfsM d i o (2 ^ d.vars.toNat) = bfsN d (i + 1) := by rw [bfsN_succ h]; rfl
theorem bfsM_prefix {d : DFA} {i o x : Nat} (h : (bfsN d i)[i]? = some o) (hx : x ≤ 2 ^ d.vars.toNat) : bfsM d i o x <+: bfsN d (i + 1) := by
  rw [← bfsM_full h]
  unfold bfsM
  have h1 : List.range (2 ^ d.vars.toNat) = List.range x ++ (List.range (2 ^ d.vars.toNat)).drop x := by
    have h2 := List.take_append_drop x (List.range (2 ^ d.vars.toNat))
    rw [List.take_range, Nat.min_eq_left hx] at h2
    exact h2.symm
  rw [h1, List.map_append, List.foldl_append]
  exact foldl_prefix _ _
theorem ord_prefix {d : DFA} {i o x : Nat} (h : (bfsN d i)[i]? = some o) (hx : x ≤ 2 ^ d.vars.toNat) (hi : i + 1 ≤ d.next.length) : bfsM d i o x <+: order d :=
  (bfsM_prefix h hx).trans (bfsN_prefix d _ _ hi)
theorem visit_old {d : DFA} {i o x : Nat} (h : (bfsN d i)[i]? = some o) (hx : x ≤ 2 ^ d.vars.toNat) (hi : i + 1 ≤ d.next.length) {t : Nat} (ht : t ∈ bfsM d i o x) : ix t (bfsM d i o x) = ix t (order d) :=
  (ix_prefix (ord_prefix h hx hi) ht).symm
theorem visit_new {d : DFA} {i o x : Nat} (h : (bfsN d i)[i]? = some o) (hx : x < 2 ^ d.vars.toNat) (hi : i + 1 ≤ d.next.length) (ht : toN d o x ∉ bfsM d i o x) : (bfsM d i o x).length = ix (toN d o x) (order d) ∧ bfsM d i o (x + 1) = bfsM d i o x ++ [toN d o x] := by
  have h1 : bfsM d i o (x + 1) = bfsM d i o x ++ [toN d o x] := by rw [bfsM_step]; unfold add; rw [if_neg ht]
  have h2 := ord_prefix (x := x + 1) h hx hi
  refine ⟨?_, h1⟩
  rw [ix_prefix h2 (by rw [h1]; simp), h1, ix_append_right ht]
  simp [ix]
theorem visit_same {d : DFA} {i o x : Nat} (ht : toN d o x ∈ bfsM d i o x) : bfsM d i o (x + 1) = bfsM d i o x := by rw [bfsM_step]; unfold add; rw [if_pos ht]
end Go.Lx


namespace Go.Lx
open Go.RowKit
set_option linter.unusedVariables false
def Det (z a : DFA) : Prop := ∀ u u', WdV z.vars u → WdV z.vars u' → runN z z.start.toNat u = runN z z.start.toNat u' → runN a a.start.toNat u = runN a a.start.toNat u'
def Fac (z : DFA) (p : List Nat → Bool) : Prop := ∀ u u' w, WdV z.vars u → WdV z.vars u' → WdV z.vars w → runN z z.start.toNat u = runN z z.start.toNat u' → p (u ++ w) = p (u' ++ w)
theorem runN_append (d : DFA) (s : Nat) (u w : List Nat) : runN d s (u ++ w) = runN d (runN d s u) w := by simp [runN]
theorem WdV.append {v : Int} {u w : List Nat} (hu : WdV v u) (hw : WdV v w) : WdV v (u ++ w) := fun x hx => (List.mem_append.1 hx).elim (hu x) (hw x)
theorem wd_wdV {d : DFA} {w : List Nat} : Wd d w ↔ WdV d.vars w := Iff.rfl
theorem Det.refl (z : DFA) : Det z z := fun _ _ _ _ h => h
theorem Det.fac {z a : DFA} {n : Nat} {p : List Nat → Bool} (h : Det z a) (ha : HasL z.vars n a p) : Fac z p := fun u u' w hu hu' hw e => by
  rw [← ha.acc _ (hu.append hw), ← ha.acc _ (hu'.append hw)]
  unfold acc
  rw [runN_append, runN_append, h u u' hu hu' e]
theorem Fac.op {z : DFA} {p q : List Nat → Bool} (f : Bool → Bool → Bool) (hp : Fac z p) (hq : Fac z q) : Fac z (fun w => f (p w) (q w)) := fun u u' w hu hu' hw e => by
  show f _ _ = f _ _
  rw [hp u u' w hu hu' hw e, hq u u' w hu hu' hw e]
theorem Det.prodL {f : Bool → Bool → Bool} {a b : DFA} (ha : Val a) (hb : Val b) (hv : a.vars = b.vars) : Det (prodD f a b) a ∧ Det (prodD f a b) b := by
  have key : ∀ u u', Wd a u → Wd a u' → runN (prodD f a b) (prodD f a b).start.toNat u = runN (prodD f a b) (prodD f a b).start.toNat u' → runN a a.start.toNat u = runN a a.start.toNat u' ∧ runN b b.start.toNat u = runN b b.start.toNat u' := fun u u' hu hu' e => by
    have hs : (prodD f a b).start.toNat = a.start.toNat * b.next.length + b.start.toNat := Int.toNat_natCast _
    rw [hs, prod_run ha hb hv (start_lt ha) (start_lt hb) u hu, prod_run ha hb hv (start_lt ha) (start_lt hb) u' hu'] at e
    have hbu : Wd b u := fun x hx => by have := hu x hx; unfold letN at *; rw [← hv]; exact this
    have hbu' : Wd b u' := fun x hx => by have := hu' x hx; unfold letN at *; rw [← hv]; exact this
    have h1 := pr_div (s := runN a a.start.toNat u) (runN_lt hb (start_lt hb) u hbu)
    have h2 := pr_div (s := runN a a.start.toNat u') (runN_lt hb (start_lt hb) u' hbu')
    rw [← e] at h2
    exact ⟨h1.1.symm.trans h2.1, h1.2.symm.trans h2.2⟩
  exact ⟨fun u u' hu hu' e => (key u u' hu hu' e).1, fun u u' hu hu' e => (key u u' hu hu' e).2⟩
theorem Det.trans {z y a : DFA} (hv : z.vars = y.vars) (h : Det z y) (h2 : Det y a) : Det z a := fun u u' hu hu' e => h2 u u' (hv ▸ hu) (hv ▸ hu') (h u u' hu hu' e)
theorem Fac.det {z a : DFA} {n : Nat} {p : List Nat → Bool} (h : Fac z p) (ha : MinL z.vars n a p) : Det z a := fun u u' hu hu' e => by
  have hva := ha.valid
  have wu : Wd a u := ha.wd.2 hu
  have wu' : Wd a u' := ha.wd.2 hu'
  have hs := runN_lt hva (start_lt hva) u wu
  have ht := runN_lt hva (start_lt hva) u' wu'
  refine Classical.byContradiction fun hne => ?_
  have hT : Tell (minD a) (runN a a.start.toNat u) (runN a a.start.toNat u') none := fun w hw hd => by
    rw [ha.min] at hw hd
    refine hd ?_
    have hwv : WdV z.vars w := ha.wd.1 hw
    have := h u u' w hu hu' hwv e
    rw [← ha.acc _ (hu.append hwv), ← ha.acc _ (hu'.append hwv)] at this
    unfold acc at this
    rw [runN_append, runN_append] at this
    exact this
  have := (minD_apart hva (by rw [ha.min]; exact hs) (by rw [ha.min]; exact ht) hT).2 hne
  exact absurd this (by simp)
theorem order_fact {d z : DFA} (hd : Val d) (hz : Val z) (hv : z.vars = d.vars) (h : Det z d) : (order d).length ≤ z.next.length := by
  classical
  have hr : ∀ o ∈ order d, ∃ w, Wd d w ∧ runN d d.start.toNat w = o := fun o ho => bfsN_reach hd _ o ho
  let g : Nat → Nat := fun o => if hx : ∃ w, Wd d w ∧ runN d d.start.toNat w = o then runN z z.start.toNat (Classical.choose hx) else 0
  have hg : ∀ o ∈ order d, ∃ w, Wd d w ∧ runN d d.start.toNat w = o ∧ g o = runN z z.start.toNat w := fun o ho => by
    have hx := hr o ho
    refine ⟨Classical.choose hx, (Classical.choose_spec hx).1, (Classical.choose_spec hx).2, ?_⟩
    show (if hx : _ then _ else _) = _
    rw [dif_pos hx]
  have wz : ∀ w, Wd d w → WdV z.vars w := fun w hw => by rw [hv]; exact hw
  have hn : ((order d).map g).Nodup := map_nodup (bfsN_ok hd _).1 fun a ha b hb e => by
    obtain ⟨u, hu, rfl, e1⟩ := hg a ha
    obtain ⟨u', hu', rfl, e2⟩ := hg b hb
    exact h u u' (wz u hu) (wz u' hu') (by rw [← e1, ← e2, e])
  have := nodup_bound (n := z.next.length) hn fun x hx => by
    obtain ⟨o, ho, rfl⟩ := List.mem_map.1 hx
    obtain ⟨u, hu, _, e1⟩ := hg o ho
    rw [e1]
    exact runN_lt hz (start_lt hz) u (wz u hu)
  simpa using this
theorem pr_order_factW {f : Bool → Bool → Bool} {a b z : DFA} (ha : Val a) (hb : Val b) (hv : a.vars = b.vars) (hz : Val z) (hzv : z.vars = a.vars) (h1 : Det z a) (h2 : Det z b) : (order (prodD f a b)).length ≤ z.next.length := by
  refine order_fact (prod_val ha hb hv) hz hzv fun u u' hu hu' e => ?_
  rw [show (prodD f a b).start.toNat = a.start.toNat * b.next.length + b.start.toNat from Int.toNat_natCast _,
    prod_run ha hb hv (start_lt ha) (start_lt hb) u (by rw [wd_wdV, ← hzv]; exact hu), prod_run ha hb hv (start_lt ha) (start_lt hb) u' (by rw [wd_wdV, ← hzv]; exact hu'), h1 u u' hu hu' e, h2 u u' hu hu' e]
end Go.Lx


namespace Go.Lx
open Go.RowKit
set_option linter.unusedVariables false
def noD : DFA := ⟨0, 0, [], []⟩
def wrongD (a b : DFA) : Nat := if checkD a ≠ 0 then checkD a else if checkD b ≠ 0 then checkD b else if a.vars ≠ b.vars then 7 else 0
def opV (f : Bool → Bool → Bool) (a b : DFA) : DFA := if wrongD a b = 0 then opD f a b else noD
theorem wrongD_zero {a b : DFA} : wrongD a b = 0 ↔ Valid a ∧ Valid b ∧ a.vars = b.vars := by
  unfold wrongD
  rw [← checkD_zero, ← checkD_zero]
  split
  · rename_i h; constructor
    · intro e; exact absurd e h
    · intro e; exact absurd e.1 h
  · rename_i h1; split
    · rename_i h; constructor
      · intro e; exact absurd e h
      · intro e; exact absurd e.2.1 h
    · rename_i h2; split
      · rename_i h; constructor
        · intro e; exact absurd e (by decide)
        · intro e; exact absurd e.2.2 h
      · rename_i h; constructor
        · intro _; exact ⟨by omega, by omega, Classical.not_not.1 h⟩
        · intro _; rfl
theorem wrong_first {a b : DFA} (h : checkD a ≠ 0) : wrongD a b = checkD a := by unfold wrongD; rw [if_pos h]
theorem wrong_second {a b : DFA} (h : checkD a = 0) (h2 : checkD b ≠ 0) : wrongD a b = checkD b := by unfold wrongD; rw [if_neg (by omega), if_pos h2]
theorem wrong_vars {a b : DFA} (h : checkD a = 0) (h2 : checkD b = 0) (h3 : a.vars ≠ b.vars) : wrongD a b = 7 := by unfold wrongD; rw [if_neg (by omega), if_neg (by omega), if_pos h3]
theorem opV_ok {f : Bool → Bool → Bool} {a b : DFA} (h : wrongD a b = 0) : opV f a b = opD f a b := by unfold opV; rw [if_pos h]
theorem opV_bad {f : Bool → Bool → Bool} {a b : DFA} (h : wrongD a b ≠ 0) : opV f a b = noD := by unfold opV; rw [if_neg h]
def un (n c : Nat) : Int × Int := (((c / n : Nat) : Int), ((c % n : Nat) : Int))
theorem un_inj {n c e : Nat} (h : un n c = un n e) : c = e := by
  unfold un at h
  simp only [Prod.mk.injEq] at h
  have h1 : c / n = e / n := by omega
  have h2 : c % n = e % n := by omega
  rw [← Nat.div_add_mod c n, ← Nat.div_add_mod e n, h1, h2]
abbrev unC (n c : Nat) : List Value := [.int .i64 ((c / n : Nat) : Int), .int .i64 ((c % n : Nat) : Int)]
def prs (n : Nat) (ks : List Nat) : List Value := ks.flatMap (unC n)
theorem prs_snoc (n : Nat) (ks : List Nat) (c : Nat) : prs n (ks ++ [c]) = prs n ks ++ unC n c := by simp [prs]
theorem prs_len (n : Nat) : ∀ ks : List Nat, (prs n ks).length = ks.length * 2
  | [] => rfl
  | c :: ks => by
    have := prs_len n ks
    simp only [prs, List.flatMap_cons, List.length_append, List.length_cons, List.length_nil] at this ⊢
    omega
theorem prs_get {n : Nat} : ∀ {ks : List Nat} {i c : Nat}, ks[i]? = some c → ∀ j (h : j < (unC n c).length), (prs n ks)[i * 2 + j]? = some (unC n c)[j]
  | [], i, c, h, _, _ => by simp at h
  | e :: ks, 0, c, h, j, hj => by
    simp only [List.getElem?_cons_zero, Option.some.injEq] at h
    subst h
    rw [Nat.zero_mul, Nat.zero_add, show prs n (e :: ks) = unC n e ++ prs n ks from rfl, List.getElem?_append_left hj]
    exact List.getElem?_eq_getElem hj
  | e :: ks, i + 1, c, h, j, hj => by
    rw [show prs n (e :: ks) = unC n e ++ prs n ks from rfl, List.getElem?_append_right (by show 2 ≤ _; omega), show (i + 1) * 2 + j - (unC n e).length = i * 2 + j by show (i + 1) * 2 + j - 2 = _; omega]
    exact prs_get (by simpa using h) j hj
abbrev pmap (n : Nat) (ks : List Nat) : List ((Int × Int) × Nat) := (ks.map (un n)).zipIdx
theorem un_mem {n c : Nat} {ks : List Nat} : un n c ∈ ks.map (un n) ↔ c ∈ ks := by
  constructor
  · intro h
    obtain ⟨e, he, h2⟩ := List.mem_map.1 h
    rw [← un_inj h2]; exact he
  · exact fun h => List.mem_map_of_mem h
theorem un_ix (n c : Nat) : ∀ ks : List Nat, ix (un n c) (ks.map (un n)) = ix c ks
  | [] => rfl
  | e :: ks => by
    simp only [List.map_cons, ix, un_ix n c ks]
    by_cases h : c = e
    · rw [h]; simp
    · rw [if_neg (fun h2 => h (un_inj h2)), if_neg h]
theorem pmap_snoc (n : Nat) (ks : List Nat) (c : Nat) : pmap n (ks ++ [c]) = pmap n ks ++ [(un n c, ks.length)] := by
  show ((ks ++ [c]).map (un n)).zipIdx = _
  rw [List.map_append, List.zipIdx_append]; simp
theorem pmap_fst (n : Nat) (ks : List Nat) : (pmap n ks).map Prod.fst = ks.map (un n) := zipIdx_fst _ 0
def rnR (d : DFA) (o : Nat) : List Int := (renRow d o).map fun x : Nat => (x : Int)
theorem renum_rows (d : DFA) : (renum d).next = (order d).map (rnR d) := renum_next d
theorem renum_fins (d : DFA) : (renum d).final = (order d).map (finN d) := rfl
theorem bfs_at {d : DFA} {i o : Nat} (h : (bfsN d i)[i]? = some o) (hi : i ≤ d.next.length) : (order d)[i]? = some o := by
  obtain ⟨hl, e⟩ := List.getElem?_eq_some_iff.1 h
  obtain ⟨r, hr⟩ := bfsN_prefix d i d.next.length hi
  show (bfsN d d.next.length)[i]? = _
  rw [← hr, List.getElem?_append_left hl]; exact h
theorem take_at {α : Type} {l : List α} {i : Nat} {o : α} (h : l[i]? = some o) : l.take (i + 1) = l.take i ++ [o] := by
  obtain ⟨hl, e⟩ := List.getElem?_eq_some_iff.1 h
  rw [List.take_succ_eq_append_getElem hl, e]
theorem pr_fin_at {f : Bool → Bool → Bool} {a b : DFA} {o : Nat} (ho : o < a.next.length * b.next.length) : finN (prodD f a b) o = f (finN a (o / b.next.length)) (finN b (o % b.next.length)) := by
  obtain ⟨h1, h2⟩ := pr_split ho
  have := prod_fin (f := f) h1 h2
  rwa [Nat.div_add_mod'] at this
theorem pr_stop {f : Bool → Bool → Bool} {a b : DFA} {N : Nat} (va : Valid a) (vb : Valid b) (hv : a.vars = b.vars) (h : (bfsN (prodD f a b) N).length = N) : order (prodD f a b) = bfsN (prodD f a b) N :=
  order_eq h (by have := pr_bfs_len (f := f) va vb hv N; rw [prod_len]; omega)
theorem itms_snoc (E : TypeId) (qs : List Rec) (r : Rec) : itms E (qs ++ [r]) = itms E qs ++ [r.itm E] := List.map_append
theorem Sub.fold (A : List Item) (x : Item) (B S S' : List Item) (h : S' = S ++ [x]) : Sub ((A ++ S') ++ B) ((A ++ (x :: B)) ++ S) := by
  subst h
  refine ⟨_, ?_, List.Sublist.refl _⟩
  have h1 : (A ++ (S ++ [x])) ++ B = A ++ (S ++ (x :: B)) := by simp
  have h2 : (A ++ (x :: B)) ++ S = A ++ ((x :: B) ++ S) := by simp
  rw [h1, h2]
  exact List.Perm.append_left A List.perm_append_comm
end Go.Lx


namespace Go.Proofs.YtnpehjpookcfkaaGreatDoor
open Go.Lx Go.RowKit _root_.Go.Proofs.Tryz
set_option linter.unusedVariables false
set_option linter.unusedSimpArgs false
theorem pairT : Pair2 Tryz.prog 114 { name := "s", type := 3, offset := 0, embedded := false, tag := "", pkgPath := "sentinel/boolean", byteOffset := 0 } { name := "t", type := 3, offset := 1, embedded := false, tag := "", pkgPath := "sentinel/boolean", byteOffset := 8 } := ⟨underlying114, underlying3, underlying3, rfl, rfl, by decide, by decide, by kernel_rfl⟩
theorem beginBad (w : World) [Tab Tryz.prog w] (a b : DFA) (j k : DK) (ha : At w a j) (hb : At w b k) (haa : a.next.length < 9223372036854775807) (haar : ∀ r ∈ a.next, r.length < 9223372036854775807) (haaf : a.final.length < 9223372036854775807) (hbb : b.next.length < 9223372036854775807) (hbbr : ∀ r ∈ b.next, r.length < 9223372036854775807) (hbbf : b.final.length < 9223372036854775807) (he : wrongD a b ≠ 0) :
    PureT Tryz.prog 95 [dV a j, dV b k] w fun v N => v = .tuple #[.pointer none, .int .i64 (wrongD a b : Int)] ∧ N = [] := by
  refine CallT.enter Tryz.func95 rfl Tryz.ntmps95 rfl ?_
  refine T.s (T.rg ?_)
  refine TO.l rfl (l_box (v := (dV a j)) (cs := (dC a j)) rfl rfl (fun bx1 => ?_))
  refine TO.l rfl (l_box (v := (dV b k)) (cs := (dC b k)) rfl rfl (fun bx2 => ?_))
  refine TO.qa rfl (TO.qa rfl ?_)
  refine TO.nl (T.s (T.s (T.rg ?_)))
  refine TO.q (q_la 1 underlying25 rfl inf25 rfl rfl rfl) ?_
  have hk10 := fun (w1 : World) (hI : Inv w [oI bx2 25 (dC b k), oI bx1 25 (dC a j)] w1) => (haveI := tbz hI; subsetCheck w1 a j.nb j.fb j.nc j.fc (vals j.qs) (hI.dfa ha) haa haar haaf)
  refine TO.l rfl (l_call ent33 (CallT.op hk10) rfl ?_)
  clear hk10
  rintro vr O' ⟨N, rfl, rfl, rfl⟩
  refine TO.qa rfl ?_
  refine TO.nl (T.s (T.rg ?_))
  refine TO.qm rfl (TO.q (q_neq rfl rfl) ?_)
  refine TO.nl ?_
  refine T.condP rfl (fun hc => ?_) (fun hc => ?_)
  · have hlt12 : checkD a ≠ 0 := by omega
    refine T.s (T.rg ?_)
    refine TO.qm rfl (TO.qa rfl (TO.qa rfl ?_))
    refine TO.nl (T.ret (Res.drop ?_))
    refine Res.two (.pointer none) (.int .i64 (checkD a : Int)) Tryz.results95 rfl rfl ?_
    exact ⟨[], Sub.z, by rw [wrong_first (by omega)], rfl⟩
  have hge12 : ¬ checkD a ≠ 0 := by omega
  refine T.skip (T.s (T.s (T.rg ?_)))
  refine TO.q (q_la 0 underlying25 rfl inf25 rfl rfl rfl) ?_
  have hk15 := fun (w1 : World) (hI : Inv w [oI bx2 25 (dC b k), oI bx1 25 (dC a j)] w1) => (haveI := tbz hI; subsetCheck w1 b k.nb k.fb k.nc k.fc (vals k.qs) (hI.dfa hb) hbb hbbr hbbf)
  refine TO.l rfl (l_call ent33 (CallT.op hk15) rfl ?_)
  clear hk15
  rintro vr O' ⟨N, rfl, rfl, rfl⟩
  refine TO.qa rfl ?_
  refine TO.nl (T.s (T.rg ?_))
  refine TO.qm rfl (TO.q (q_neq rfl rfl) ?_)
  refine TO.nl ?_
  refine T.condP rfl (fun hc => ?_) (fun hc => ?_)
  · have hlt17 : checkD b ≠ 0 := by omega
    refine T.s (T.rg ?_)
    refine TO.qm rfl (TO.qa rfl (TO.qa rfl ?_))
    refine TO.nl (T.ret (Res.drop ?_))
    refine Res.two (.pointer none) (.int .i64 (checkD b : Int)) Tryz.results95 rfl rfl ?_
    exact ⟨[], Sub.z, by rw [wrong_second (by omega) (by omega)], rfl⟩
  have hge17 : ¬ checkD b ≠ 0 := by omega
  refine T.skip (T.s (T.s (T.rg ?_)))
  refine TO.q (q_fa underlying25 rfl inf3 rfl rfl) (TO.q (q_lb 1 underlying3 rfl rfl rfl rfl) (TO.q (q_fa underlying25 rfl inf3 rfl rfl) (TO.q (q_lb 0 underlying3 rfl rfl rfl rfl) ?_)))
  refine TO.q (q_neq rfl rfl) ?_
  refine TO.nl ?_
  refine T.condP (p := ¬ a.vars = b.vars) (congrArg Value.bool (decide_eq_decide.2 (by omega))) (fun hc => ?_) (fun hc => ?_)
  · refine T.s ?_
    refine T.rg ?_
    refine TO.qa rfl (TO.qa rfl ?_)
    refine TO.nl (T.ret (Res.drop ?_))
    refine Res.two (.pointer none) (.int .i64 7) Tryz.results95 rfl rfl ?_
    exact ⟨[], Sub.z, by rw [wrong_vars (by omega) (by omega) hc]; rfl, rfl⟩
  refine absurd (wrongD_zero.2 ⟨checkD_zero.1 (by omega), checkD_zero.1 (by omega), Classical.not_not.1 hc⟩) he
theorem beginOk (w : World) [Tab Tryz.prog w] (a b : DFA) (j k : DK) (ha : At w a j) (hb : At w b k) (va : Valid a) (vb : Valid b) (hv : a.vars = b.vars) :
    PureT Tryz.prog 95 [dV a j, dV b k] w fun v N => ∃ (bp qb m : Nat), v = .tuple #[.pointer (some ⟨bp, 0, none⟩), .int .i64 0] ∧ N = [oI bp 118 [(.int .i64 a.vars), (.int .i64 a.start), (.slice j.nb a.next.length j.nc), (.slice j.fb a.final.length j.fc), (.int .i64 b.vars), (.int .i64 b.start), (.slice k.nb b.next.length k.nc), (.slice k.fb b.final.length k.fc), (.slice (some ⟨qb, 0, none⟩) ([a.start.toNat * b.next.length + b.start.toNat].length) 1), (.map (some m))], rowI (some ⟨qb, 0, none⟩) 1 114 2 (prs b.next.length [a.start.toNat * b.next.length + b.start.toNat]), mapI pairV (fun n : Nat => Value.int .i64 (n : Int)) m (pmap b.next.length [a.start.toNat * b.next.length + b.start.toNat])] := by
  refine CallT.enter Tryz.func95 rfl Tryz.ntmps95 rfl ?_
  have wa : checkD a = 0 := checkD_zero.2 va
  have wb : checkD b = 0 := checkD_zero.2 vb
  have hs1 : a.start = ((a.start.toNat : Nat) : Int) := by have := va.s0; omega
  have hs2 : b.start = ((b.start.toNat : Nat) : Int) := by have := vb.s0; omega
  have hpd := pr_div (s := a.start.toNat) (start_lt vb.toVal)
  refine T.s (T.rg ?_)
  refine TO.l rfl (l_box (v := (dV a j)) (cs := (dC a j)) rfl rfl (fun bx1 => ?_))
  refine TO.l rfl (l_box (v := (dV b k)) (cs := (dC b k)) rfl rfl (fun bx2 => ?_))
  refine TO.qa rfl (TO.qa rfl ?_)
  refine TO.nl (T.s (T.s (T.rg ?_)))
  refine TO.q (q_la 1 underlying25 rfl inf25 rfl rfl rfl) ?_
  have hk10 := fun (w1 : World) (hI : Inv w [oI bx2 25 (dC b k), oI bx1 25 (dC a j)] w1) => (haveI := tbz hI; subsetCheck w1 a j.nb j.fb j.nc j.fc (vals j.qs) (hI.dfa ha) (by have := va.n4; omega) va.bound (by have := va.fin; have := va.n4; omega))
  refine TO.l rfl (l_call ent33 (CallT.op hk10) rfl ?_)
  clear hk10
  rintro vr O' ⟨N, rfl, rfl, rfl⟩
  rw [wa]
  refine TO.qa rfl ?_
  refine TO.nl (T.s (T.rg ?_))
  refine TO.qm rfl (TO.q (q_neq rfl rfl) ?_)
  refine TO.nl ?_
  refine T.cond0 rfl ?_
  refine T.skip (T.s (T.s (T.rg ?_)))
  refine TO.q (q_la 0 underlying25 rfl inf25 rfl rfl rfl) ?_
  have hk15 := fun (w1 : World) (hI : Inv w [oI bx2 25 (dC b k), oI bx1 25 (dC a j)] w1) => (haveI := tbz hI; subsetCheck w1 b k.nb k.fb k.nc k.fc (vals k.qs) (hI.dfa hb) (by have := vb.n4; omega) vb.bound (by have := vb.fin; have := vb.n4; omega))
  refine TO.l rfl (l_call ent33 (CallT.op hk15) rfl ?_)
  clear hk15
  rintro vr O' ⟨N, rfl, rfl, rfl⟩
  rw [wb]
  refine TO.qa rfl ?_
  refine TO.nl (T.s (T.rg ?_))
  refine TO.qm rfl (TO.q (q_neq rfl rfl) ?_)
  refine TO.nl ?_
  refine T.cond0 rfl ?_
  refine T.skip (T.s (T.s (T.rg ?_)))
  refine TO.q (q_fa underlying25 rfl inf3 rfl rfl) (TO.q (q_lb 1 underlying3 rfl rfl rfl rfl) (TO.q (q_fa underlying25 rfl inf3 rfl rfl) (TO.q (q_lb 0 underlying3 rfl rfl rfl rfl) ?_)))
  refine TO.q (q_neq rfl rfl) ?_
  refine TO.nl ?_
  refine T.cond0 (congrArg Value.bool (decide_eq_false (fun h => h hv))) ?_
  refine T.skip (T.s (T.rg ?_))
  refine TO.q (q_fa underlying25 rfl inf3 rfl rfl) (TO.q (q_lb 1 underlying3 rfl rfl rfl rfl) (TO.q (q_fa underlying25 rfl inf3 rfl rfl) (TO.q (q_lb 0 underlying3 rfl rfl rfl rfl) ?_)))
  refine TO.q (q_build (cs := [(.int .i64 a.start), (.int .i64 b.start)]) plan114 inf114 (by kernel_rfl)) ?_
  refine TO.l rfl (l_alloc inf114 rfl (fun bx3 => ?_))
  refine TO.l rfl (l_sb (v := (.agg #[(.int .i64 a.start), (.int .i64 b.start)])) (vs := [(.int .i64 a.start), (.int .i64 b.start)]) 0 inf114 rfl rfl rfl rfl rfl rfl (by simp [putL]) ?_)
  refine TO.nl ?_
  refine T.cut (fun ρ O => ∃ (bp qb m : Nat), O = [oI bp 118 [(.int .i64 a.vars), (.int .i64 a.start), (.slice j.nb a.next.length j.nc), (.slice j.fb a.final.length j.fc), (.int .i64 b.vars), (.int .i64 b.start), (.slice k.nb b.next.length k.nc), (.slice k.fb b.final.length k.fc), (.slice (some ⟨qb, 0, none⟩) 1 1), (.map (some m))], rowI (some ⟨qb, 0, none⟩) 1 114 2 [(.int .i64 a.start), (.int .i64 b.start)], mapI pairV (fun n : Nat => Value.int .i64 (n : Int)) m [((a.start, b.start), (0 : Nat))]] ∧ Heads [(0, (dV a j)), (1, (dV b k)), (2, (.pointer (some ⟨bx1, 0, none⟩))), (3, (.pointer (some ⟨bx2, 0, none⟩))), (4, (.pointer (some ⟨bp, 0, none⟩))), (5, .int .i64 0), (6, .int .i64 ((0 : Nat) : Int)), (7, .int .i64 ((0 : Nat) : Int)), (8, (.pointer (some ⟨bx3, 0, none⟩)))] ρ) ?_ ?_
  · refine T.tree [oI bx3 114 [(.int .i64 a.start), (.int .i64 b.start)], oI bx2 25 (dC b k), oI bx1 25 (dC a j)] 12 mixed rfl (by exact Sub.rf) (fun _ _ _ h => h) ?_
    refine RO.quietT 0 rfl (by kernel_rfl) (q_la 2 underlying25 rfl inf25 rfl rfl rfl) ?_
    refine RO.quietT 1 rfl (by kernel_rfl) (q_la 1 underlying25 rfl inf25 rfl rfl rfl) ?_
    refine RO.quietT 2 rfl (by kernel_rfl) (q_la 0 underlying114 rfl inf114 rfl rfl rfl) ?_
    refine RO.quietT 5 rfl (by kernel_rfl) (q_la 0 underlying114 rfl inf114 rfl rfl rfl) ?_
    refine RO.fork [3, 4] (by kernel_rfl) rfl ⟨⟨_, rfl, rfl, l_buildSlice (m := 1) (parts := [(0, _)]) (cs := [(.int .i64 a.start), (.int .i64 b.start)]) underlying115 inf114 (by decide) (by kernel_rfl) rfl (fun qb => ⟨by exact Sub.d (.k (.k (.k .z))), ?_⟩)⟩, ⟨_, rfl, rfl, l_makeMap pairV (fun n : Nat => Value.int .i64 (n : Int)) (fun m => ⟨by exact Sub.d (.k (.k (.k .z))), ?_⟩)⟩, trivial⟩
    · refine RO.fork [4] (by kernel_rfl) rfl ⟨⟨_, rfl, rfl, l_makeMap pairV (fun n : Nat => Value.int .i64 (n : Int)) (fun m => ⟨by exact Sub.d (.d (.k (.k (.k .z)))), ?_⟩)⟩, trivial⟩
      refine RO.fork [6] (by kernel_rfl) rfl ⟨⟨_, rfl, rfl, l_mapInsert (a := (a.start, b.start)) (v := (0 : Nat)) 0 underlying116 (KeyOk.pair pairT) rfl rfl rfl rfl (by simp) ⟨by exact Sub.d (.d (.k (.k (.k .z)))), ?_⟩⟩, trivial⟩
      refine RO.quietT 7 rfl (by kernel_rfl) (q_move rfl) ?_
      refine RO.quietT 8 rfl (by kernel_rfl) (q_build (cs := [(.int .i64 a.vars), (.int .i64 a.start), (.slice j.nb a.next.length j.nc), (.slice j.fb a.final.length j.fc), (.int .i64 b.vars), (.int .i64 b.start), (.slice k.nb b.next.length k.nc), (.slice k.fb b.final.length k.fc), (.slice (some ⟨qb, 0, none⟩) 1 1), (.map (some m))]) plan118 inf118 (by kernel_rfl)) ?_
      refine RO.fork [9] (by kernel_rfl) rfl ⟨⟨_, rfl, rfl, l_box (v := (.agg #[(.int .i64 a.vars), (.int .i64 a.start), (.slice j.nb a.next.length j.nc), (.slice j.fb a.final.length j.fc), (.int .i64 b.vars), (.int .i64 b.start), (.slice k.nb b.next.length k.nc), (.slice k.fb b.final.length k.fc), (.slice (some ⟨qb, 0, none⟩) 1 1), (.map (some m))])) (cs := [(.int .i64 a.vars), (.int .i64 a.start), (.slice j.nb a.next.length j.nc), (.slice j.fb a.final.length j.fc), (.int .i64 b.vars), (.int .i64 b.start), (.slice k.nb b.next.length k.nc), (.slice k.fb b.final.length k.fc), (.slice (some ⟨qb, 0, none⟩) 1 1), (.map (some m))]) rfl rfl (fun bp => ⟨by exact Sub.d (.d (.d (.k (.k (.k .z))))), ?_⟩)⟩, trivial⟩
      refine RO.quietT 10 rfl (by kernel_rfl) (q_assign rfl) ?_
      refine RO.quietT 11 rfl (by kernel_rfl) (q_assign rfl) ?_
      exact RO.fin (by kernel_rfl) ⟨bp, qb, m, rfl, ⟨rfl, rfl, rfl, rfl, rfl, rfl, rfl, rfl, rfl, trivial⟩⟩ (by exact Sub.k (.pull [mapI pairV (fun n : Nat => Value.int .i64 (n : Int)) m [((a.start, b.start), (0 : Nat))]] _ (.k .z)))
    refine RO.fork [3, 6] (by kernel_rfl) rfl ⟨⟨_, rfl, rfl, l_buildSlice (m := 1) (parts := [(0, _)]) (cs := [(.int .i64 a.start), (.int .i64 b.start)]) underlying115 inf114 (by decide) (by kernel_rfl) rfl (fun qb => ⟨by exact Sub.d (.d (.k (.k (.k .z)))), ?_⟩)⟩, ⟨_, rfl, rfl, l_mapInsert (a := (a.start, b.start)) (v := (0 : Nat)) 0 underlying116 (KeyOk.pair pairT) rfl rfl rfl rfl (by simp) ⟨by exact Sub.d (.k (.k (.k .z))), ?_⟩⟩, trivial⟩
    · refine RO.fork [6] (by kernel_rfl) rfl ⟨⟨_, rfl, rfl, l_mapInsert (a := (a.start, b.start)) (v := (0 : Nat)) 1 underlying116 (KeyOk.pair pairT) rfl rfl rfl rfl (by simp) ⟨by exact Sub.d (.d (.k (.k (.k .z)))), ?_⟩⟩, trivial⟩
      refine RO.quietT 7 rfl (by kernel_rfl) (q_move rfl) ?_
      refine RO.quietT 8 rfl (by kernel_rfl) (q_build (cs := [(.int .i64 a.vars), (.int .i64 a.start), (.slice j.nb a.next.length j.nc), (.slice j.fb a.final.length j.fc), (.int .i64 b.vars), (.int .i64 b.start), (.slice k.nb b.next.length k.nc), (.slice k.fb b.final.length k.fc), (.slice (some ⟨qb, 0, none⟩) 1 1), (.map (some m))]) plan118 inf118 (by kernel_rfl)) ?_
      refine RO.fork [9] (by kernel_rfl) rfl ⟨⟨_, rfl, rfl, l_box (v := (.agg #[(.int .i64 a.vars), (.int .i64 a.start), (.slice j.nb a.next.length j.nc), (.slice j.fb a.final.length j.fc), (.int .i64 b.vars), (.int .i64 b.start), (.slice k.nb b.next.length k.nc), (.slice k.fb b.final.length k.fc), (.slice (some ⟨qb, 0, none⟩) 1 1), (.map (some m))])) (cs := [(.int .i64 a.vars), (.int .i64 a.start), (.slice j.nb a.next.length j.nc), (.slice j.fb a.final.length j.fc), (.int .i64 b.vars), (.int .i64 b.start), (.slice k.nb b.next.length k.nc), (.slice k.fb b.final.length k.fc), (.slice (some ⟨qb, 0, none⟩) 1 1), (.map (some m))]) rfl rfl (fun bp => ⟨by exact Sub.d (.d (.d (.k (.k (.k .z))))), ?_⟩)⟩, trivial⟩
      refine RO.quietT 10 rfl (by kernel_rfl) (q_assign rfl) ?_
      refine RO.quietT 11 rfl (by kernel_rfl) (q_assign rfl) ?_
      exact RO.fin (by kernel_rfl) ⟨bp, qb, m, rfl, ⟨rfl, rfl, rfl, rfl, rfl, rfl, rfl, rfl, rfl, trivial⟩⟩ (by exact Sub.k (.k (.k .z)))
    refine RO.quietT 7 rfl (by kernel_rfl) (q_move rfl) ?_
    refine RO.fork [3] (by kernel_rfl) rfl ⟨⟨_, rfl, rfl, l_buildSlice (m := 1) (parts := [(0, _)]) (cs := [(.int .i64 a.start), (.int .i64 b.start)]) underlying115 inf114 (by decide) (by kernel_rfl) rfl (fun qb => ⟨by exact Sub.d (.d (.k (.k (.k .z)))), ?_⟩)⟩, trivial⟩
    refine RO.quietT 8 rfl (by kernel_rfl) (q_build (cs := [(.int .i64 a.vars), (.int .i64 a.start), (.slice j.nb a.next.length j.nc), (.slice j.fb a.final.length j.fc), (.int .i64 b.vars), (.int .i64 b.start), (.slice k.nb b.next.length k.nc), (.slice k.fb b.final.length k.fc), (.slice (some ⟨qb, 0, none⟩) 1 1), (.map (some m))]) plan118 inf118 (by kernel_rfl)) ?_
    refine RO.fork [9] (by kernel_rfl) rfl ⟨⟨_, rfl, rfl, l_box (v := (.agg #[(.int .i64 a.vars), (.int .i64 a.start), (.slice j.nb a.next.length j.nc), (.slice j.fb a.final.length j.fc), (.int .i64 b.vars), (.int .i64 b.start), (.slice k.nb b.next.length k.nc), (.slice k.fb b.final.length k.fc), (.slice (some ⟨qb, 0, none⟩) 1 1), (.map (some m))])) (cs := [(.int .i64 a.vars), (.int .i64 a.start), (.slice j.nb a.next.length j.nc), (.slice j.fb a.final.length j.fc), (.int .i64 b.vars), (.int .i64 b.start), (.slice k.nb b.next.length k.nc), (.slice k.fb b.final.length k.fc), (.slice (some ⟨qb, 0, none⟩) 1 1), (.map (some m))]) rfl rfl (fun bp => ⟨by exact Sub.d (.d (.d (.k (.k (.k .z))))), ?_⟩)⟩, trivial⟩
    refine RO.quietT 10 rfl (by kernel_rfl) (q_assign rfl) ?_
    refine RO.quietT 11 rfl (by kernel_rfl) (q_assign rfl) ?_
    exact RO.fin (by kernel_rfl) ⟨bp, qb, m, rfl, ⟨rfl, rfl, rfl, rfl, rfl, rfl, rfl, rfl, rfl, trivial⟩⟩ (by exact Sub.k (.k (.k .z)))
  rintro ρ O ⟨bp, qb, m, rfl, hH⟩
  obtain ⟨ρ0, rfl⟩ := hH.elim
  clear hH
  refine T.ret (Res.drop ?_)
  refine Res.two (.pointer (some ⟨bp, 0, none⟩)) (.int .i64 0) Tryz.results95 rfl rfl ?_
  have e1 : prs b.next.length [a.start.toNat * b.next.length + b.start.toNat] = [.int .i64 a.start, .int .i64 b.start] := by
    simp only [prs, List.flatMap_cons, List.flatMap_nil, List.append_nil, unC, hpd.1, hpd.2, ← hs1, ← hs2]
  have e2 : pmap b.next.length [a.start.toNat * b.next.length + b.start.toNat] = [((a.start, b.start), 0)] := by
    show [(un _ _, 0)] = _
    simp only [un, hpd.1, hpd.2, ← hs1, ← hs2]
  exact ⟨[oI bp 118 [(.int .i64 a.vars), (.int .i64 a.start), (.slice j.nb a.next.length j.nc), (.slice j.fb a.final.length j.fc), (.int .i64 b.vars), (.int .i64 b.start), (.slice k.nb b.next.length k.nc), (.slice k.fb b.final.length k.fc), (.slice (some ⟨qb, 0, none⟩) 1 1), (.map (some m))], rowI (some ⟨qb, 0, none⟩) 1 114 2 [(.int .i64 a.start), (.int .i64 b.start)], mapI pairV (fun n : Nat => Value.int .i64 (n : Int)) m [((a.start, b.start), (0 : Nat))]], (by exact Sub.rf), bp, qb, m, rfl, by rw [e1, e2]; rfl⟩
theorem pairsF (w : World) [Tab Tryz.prog w] (bp : Nat) : PureT Tryz.prog 96 [.pointer (some ⟨bp, 0, none⟩)] w fun v N => ∃ b, v = .func (.func 109) #[] #[.pointer (some ⟨b, 0, none⟩)] ∧ N = [oI b 107 [(.pointer (some ⟨bp, 0, none⟩))]] := by
  refine CallT.enter Tryz.func96 rfl Tryz.ntmps96 rfl ?_
  refine T.s (T.rg ?_)
  refine TO.l rfl (l_box (v := (.pointer (some ⟨bp, 0, none⟩))) (cs := [(.pointer (some ⟨bp, 0, none⟩))]) rfl rfl (fun bx1 => ?_))
  refine TO.qa rfl ?_
  refine TO.nl (T.s (T.rg ?_))
  refine TO.q (q_makeFunc) (TO.qa rfl ?_)
  refine TO.nl (T.ret ?_)
  refine Res.one (.func (.func 109) #[] #[(.pointer (some ⟨bx1, 0, none⟩))]) Tryz.results96 rfl ?_
  exact ⟨bx1, rfl, rfl⟩
theorem pvHit (base : World) [Tab Tryz.prog base] (a b : DFA) (j k : DK) (bp m : Nat) (ks : List Nat) (c : Nat) (qb : Option Addr) (qc : Nat) (hk : c ∈ ks) (hl : ks.length ≤ 17000000) :
    CallT Tryz.prog base 110 [.pointer (some ⟨bp, 0, none⟩), (.agg #[.int .i64 ((c / b.next.length : Nat) : Int), .int .i64 ((c % b.next.length : Nat) : Int)])] [oI bp 118 [(.int .i64 a.vars), (.int .i64 a.start), (.slice j.nb a.next.length j.nc), (.slice j.fb a.final.length j.fc), (.int .i64 b.vars), (.int .i64 b.start), (.slice k.nb b.next.length k.nc), (.slice k.fb b.final.length k.fc), (.slice qb ks.length qc), (.map (some m))], rowI qb qc 114 2 (prs b.next.length ks), mapI pairV (fun n : Nat => Value.int .i64 (n : Int)) m (pmap b.next.length ks)] (fun v O' => v = .int .i64 ((ix c (add ks c) : Nat) : Int) ∧ ∃ qb' qc', O' = [oI bp 118 [(.int .i64 a.vars), (.int .i64 a.start), (.slice j.nb a.next.length j.nc), (.slice j.fb a.final.length j.fc), (.int .i64 b.vars), (.int .i64 b.start), (.slice k.nb b.next.length k.nc), (.slice k.fb b.final.length k.fc), (.slice qb' ((add ks c).length) qc'), (.map (some m))], rowI qb' qc' 114 2 (prs b.next.length (add ks c)), mapI pairV (fun n : Nat => Value.int .i64 (n : Int)) m (pmap b.next.length (add ks c))]) := by
  refine CallT.enter Tryz.func110 rfl Tryz.ntmps110 rfl ?_
  refine T.s (T.rg ?_)
  refine TO.l rfl (l_box (v := (.agg #[.int .i64 ((c / b.next.length : Nat) : Int), .int .i64 ((c % b.next.length : Nat) : Int)])) (cs := [.int .i64 ((c / b.next.length : Nat) : Int), .int .i64 ((c % b.next.length : Nat) : Int)]) rfl rfl (fun bx1 => ?_))
  refine TO.qa rfl ?_
  refine TO.nl (T.s ?_)
  refine T.draws [oI bx1 114 [.int .i64 ((c / b.next.length : Nat) : Int), .int .i64 ((c % b.next.length : Nat) : Int)], oI bp 118 [(.int .i64 a.vars), (.int .i64 a.start), (.slice j.nb a.next.length j.nc), (.slice j.fb a.final.length j.fc), (.int .i64 b.vars), (.int .i64 b.start), (.slice k.nb b.next.length k.nc), (.slice k.fb b.final.length k.fc), (.slice qb ks.length qc), (.map (some m))], rowI qb qc 114 2 (prs b.next.length ks), mapI pairV (fun n : Nat => Value.int .i64 (n : Int)) m (pmap b.next.length ks)] [(0, 0), (1, 0), (2, 0), (3, 0), (4, 0), (5, 0), (6, 0), (7, 0), (8, 0), (9, 0), (10, 0)] mixed (by kernel_rfl) (by exact Sub.rf) (fun _ _ _ h => h) ?_
  refine DO.q rfl (q_move rfl) (DO.q rfl (q_nilCheck rfl) (DO.q rfl (q_fa underlying118 rfl inf116 rfl rfl) (DO.q rfl (q_lb 1 underlying116 rfl rfl rfl rfl) ?_)))
  refine DO.q rfl (q_la 0 underlying114 rfl inf114 rfl rfl rfl) (DO.q rfl (QT.cast (q_lookupOk (a := un b.next.length c) underlying116 inf3 (KeyOk.pair pairT) rfl rfl (mG 3 rfl)) (v' := (.tuple #[.int .i64 ((ix c ks : Nat) : Int), .bool true])) (by rw [look_zip]; simp only [un_mem, hk, if_true, if_false, un_ix, Nat.zero_add]; rfl)) (DO.q rfl (q_move rfl) (DO.q rfl (q_extract (vs := _) rfl rfl) ?_)))
  refine DO.q rfl (q_extract (vs := _) rfl rfl) (DO.q rfl (q_assign rfl) (DO.q rfl (q_assign rfl) ?_))
  refine DO.done ?_
  refine T.s (T.s (T.rg ?_))
  refine TO.qm rfl (TO.q (q_not rfl) ?_)
  refine TO.nl ?_
  refine T.cond0 rfl ?_
  refine T.skip (T.s (T.rg ?_))
  refine TO.qm rfl (TO.qa rfl ?_)
  refine TO.nl (T.ret (Res.drop ?_))
  refine Res.one (.int .i64 ((ix c ks : Nat) : Int)) Tryz.results110 rfl ?_
  have ha : add ks c = ks := if_pos hk
  rw [ha]
  exact ⟨[oI bp 118 [(.int .i64 a.vars), (.int .i64 a.start), (.slice j.nb a.next.length j.nc), (.slice j.fb a.final.length j.fc), (.int .i64 b.vars), (.int .i64 b.start), (.slice k.nb b.next.length k.nc), (.slice k.fb b.final.length k.fc), (.slice qb ks.length qc), (.map (some m))], rowI qb qc 114 2 (prs b.next.length ks), mapI pairV (fun n : Nat => Value.int .i64 (n : Int)) m (pmap b.next.length ks)], (by exact Sub.d (.k (.k (.k .z)))), rfl, qb, qc, rfl⟩
theorem pvNew (base : World) [Tab Tryz.prog base] (a b : DFA) (j k : DK) (bp m : Nat) (ks : List Nat) (c : Nat) (qb : Option Addr) (qc : Nat) (hk : c ∉ ks) (hl : ks.length ≤ 17000000) :
    CallT Tryz.prog base 110 [.pointer (some ⟨bp, 0, none⟩), (.agg #[.int .i64 ((c / b.next.length : Nat) : Int), .int .i64 ((c % b.next.length : Nat) : Int)])] [oI bp 118 [(.int .i64 a.vars), (.int .i64 a.start), (.slice j.nb a.next.length j.nc), (.slice j.fb a.final.length j.fc), (.int .i64 b.vars), (.int .i64 b.start), (.slice k.nb b.next.length k.nc), (.slice k.fb b.final.length k.fc), (.slice qb ks.length qc), (.map (some m))], rowI qb qc 114 2 (prs b.next.length ks), mapI pairV (fun n : Nat => Value.int .i64 (n : Int)) m (pmap b.next.length ks)] (fun v O' => v = .int .i64 ((ix c (add ks c) : Nat) : Int) ∧ ∃ qb' qc', O' = [oI bp 118 [(.int .i64 a.vars), (.int .i64 a.start), (.slice j.nb a.next.length j.nc), (.slice j.fb a.final.length j.fc), (.int .i64 b.vars), (.int .i64 b.start), (.slice k.nb b.next.length k.nc), (.slice k.fb b.final.length k.fc), (.slice qb' ((add ks c).length) qc'), (.map (some m))], rowI qb' qc' 114 2 (prs b.next.length (add ks c)), mapI pairV (fun n : Nat => Value.int .i64 (n : Int)) m (pmap b.next.length (add ks c))]) := by
  refine CallT.enter Tryz.func110 rfl Tryz.ntmps110 rfl ?_
  refine T.s (T.rg ?_)
  refine TO.l rfl (l_box (v := (.agg #[.int .i64 ((c / b.next.length : Nat) : Int), .int .i64 ((c % b.next.length : Nat) : Int)])) (cs := [.int .i64 ((c / b.next.length : Nat) : Int), .int .i64 ((c % b.next.length : Nat) : Int)]) rfl rfl (fun bx1 => ?_))
  refine TO.qa rfl ?_
  refine TO.nl (T.s ?_)
  refine T.draws [oI bx1 114 [.int .i64 ((c / b.next.length : Nat) : Int), .int .i64 ((c % b.next.length : Nat) : Int)], oI bp 118 [(.int .i64 a.vars), (.int .i64 a.start), (.slice j.nb a.next.length j.nc), (.slice j.fb a.final.length j.fc), (.int .i64 b.vars), (.int .i64 b.start), (.slice k.nb b.next.length k.nc), (.slice k.fb b.final.length k.fc), (.slice qb ks.length qc), (.map (some m))], rowI qb qc 114 2 (prs b.next.length ks), mapI pairV (fun n : Nat => Value.int .i64 (n : Int)) m (pmap b.next.length ks)] [(0, 0), (1, 0), (2, 0), (3, 0), (4, 0), (5, 0), (6, 0), (7, 0), (8, 0), (9, 0), (10, 0)] mixed (by kernel_rfl) (by exact Sub.rf) (fun _ _ _ h => h) ?_
  refine DO.q rfl (q_move rfl) (DO.q rfl (q_nilCheck rfl) (DO.q rfl (q_fa underlying118 rfl inf116 rfl rfl) (DO.q rfl (q_lb 1 underlying116 rfl rfl rfl rfl) ?_)))
  refine DO.q rfl (q_la 0 underlying114 rfl inf114 rfl rfl rfl) (DO.q rfl (QT.cast (q_lookupOk (a := un b.next.length c) underlying116 inf3 (KeyOk.pair pairT) rfl rfl (mG 3 rfl)) (v' := (.tuple #[.int .i64 0, .bool false])) (by rw [look_zip]; simp only [un_mem, hk, if_true, if_false, un_ix, Nat.zero_add]; rfl)) (DO.q rfl (q_move rfl) (DO.q rfl (q_extract (vs := _) rfl rfl) ?_)))
  refine DO.q rfl (q_extract (vs := _) rfl rfl) (DO.q rfl (q_assign rfl) (DO.q rfl (q_assign rfl) ?_))
  refine DO.done ?_
  refine T.s (T.s (T.rg ?_))
  refine TO.qm rfl (TO.q (q_not rfl) ?_)
  refine TO.nl ?_
  refine T.cond1 rfl ?_
  refine T.s (T.rg ?_)
  refine TO.qm rfl (TO.q (q_nilCheck rfl) (TO.q (q_fa underlying118 rfl inf115 rfl rfl) (TO.q (q_lb 1 underlying115 rfl rfl rfl rfl) ?_)))
  refine TO.q (q_len underlying115 rfl) (TO.qa rfl ?_)
  refine TO.nl (T.s ?_)
  refine T.draws [oI bx1 114 [.int .i64 ((c / b.next.length : Nat) : Int), .int .i64 ((c % b.next.length : Nat) : Int)], oI bp 118 [(.int .i64 a.vars), (.int .i64 a.start), (.slice j.nb a.next.length j.nc), (.slice j.fb a.final.length j.fc), (.int .i64 b.vars), (.int .i64 b.start), (.slice k.nb b.next.length k.nc), (.slice k.fb b.final.length k.fc), (.slice qb ks.length qc), (.map (some m))], rowI qb qc 114 2 (prs b.next.length ks), mapI pairV (fun n : Nat => Value.int .i64 (n : Int)) m (pmap b.next.length ks)] [(0, 0), (1, 0), (2, 0), (3, 0), (4, 0), (5, 0), (6, 2)] mixed (by kernel_rfl) (by exact Sub.rf) (fun _ _ _ h => h) ?_
  refine DO.q rfl (q_move rfl) (DO.q rfl (q_nilCheck rfl) (DO.q rfl (q_fa underlying118 rfl inf116 rfl rfl) (DO.q rfl (q_lb 1 underlying116 rfl rfl rfl rfl) ?_)))
  refine DO.q rfl (q_la 0 underlying114 rfl inf114 rfl rfl rfl) (DO.q rfl (q_move rfl) ?_)
  refine DO.last rfl rfl (l_mapPut (a := un b.next.length c) (v := ks.length) 3 underlying116 (KeyOk.pair pairT) rfl rfl rfl rfl (by rw [pmap_fst, un_mem]; exact hk) ?_)
  refine DO.done ?_
  refine T.draws [oI bx1 114 [.int .i64 ((c / b.next.length : Nat) : Int), .int .i64 ((c % b.next.length : Nat) : Int)], oI bp 118 [(.int .i64 a.vars), (.int .i64 a.start), (.slice j.nb a.next.length j.nc), (.slice j.fb a.final.length j.fc), (.int .i64 b.vars), (.int .i64 b.start), (.slice k.nb b.next.length k.nc), (.slice k.fb b.final.length k.fc), (.slice qb ks.length qc), (.map (some m))], mapI pairV (fun n : Nat => Value.int .i64 (n : Int)) m ((pmap b.next.length ks) ++ [(un b.next.length c, ks.length)])] [(0, 0), (1, 0), (2, 0), (3, 0), (4, 0), (5, 0), (6, 1), (7, 1), (8, 0), (9, 0), (10, 2)] mixed (by kernel_rfl) (by exact Sub.k (.k (.d (.k .z)))) (fun _ _ _ h => h) ?_
  refine DO.q rfl (q_move rfl) (DO.q rfl (q_move rfl) (DO.q rfl (q_nilCheck rfl) (DO.q rfl (q_fa underlying118 rfl inf115 rfl rfl) ?_)))
  refine DO.q rfl (q_lb 1 underlying115 rfl rfl rfl rfl) (DO.q rfl (q_la 0 underlying114 rfl inf114 rfl rfl rfl) ?_)
  refine DO.loud rfl rfl (l_buildSlice (m := 1) (parts := [(0, _)]) (cs := [.int .i64 ((c / b.next.length : Nat) : Int), .int .i64 ((c % b.next.length : Nat) : Int)]) underlying115 inf114 (by decide) (by kernel_rfl) rfl (fun bx2 => ⟨by exact Sub.d (.k (.k (.d (.k .z)))), ?_⟩))
  refine DO.loud rfl rfl (l_append 3 underlying115 underlying115 inf114 rfl rfl rfl rfl (by rw [prs_len]) (by decide) (Src.row (j := 0) rfl (by simp)) (by simp [oneB]) (by omega) (by decide) (by decide) (fun bx3 c4 => ⟨by exact Sub.d (.k (.k (.d (.k .z)))), ?_⟩))
  refine DO.q rfl (q_nilCheck rfl) (DO.q rfl (q_fa underlying118 rfl inf115 rfl rfl) ?_)
  refine DO.last rfl rfl (l_sb (v := (.slice bx3 (ks.length + 1) c4)) (vs := [(.slice bx3 (ks.length + 1) c4)]) 2 inf115 rfl rfl rfl rfl rfl rfl (by simp [putL]) ?_)
  refine DO.done ?_
  refine T.s (T.rg ?_)
  refine TO.qm rfl (TO.qa rfl ?_)
  refine TO.nl (T.ret (Res.drop ?_))
  refine Res.one (.int .i64 (ks.length : Int)) Tryz.results110 rfl ?_
  have ha : add ks c = ks ++ [c] := if_neg hk
  rw [ha]
  exact ⟨[oI bp 118 [(.int .i64 a.vars), (.int .i64 a.start), (.slice j.nb a.next.length j.nc), (.slice j.fb a.final.length j.fc), (.int .i64 b.vars), (.int .i64 b.start), (.slice k.nb b.next.length k.nc), (.slice k.fb b.final.length k.fc), (.slice bx3 (ks.length + 1) c4), (.map (some m))], rowI bx3 c4 114 2 ((prs b.next.length ks) ++ [.int .i64 ((c / b.next.length : Nat) : Int), .int .i64 ((c % b.next.length : Nat) : Int)]), mapI pairV (fun n : Nat => Value.int .i64 (n : Int)) m ((pmap b.next.length ks) ++ [(un b.next.length c, ks.length)])], (by exact Sub.d (.d (.k (.k (.k .z))))), by rw [ix_append_right hk]; simp [ix], _, _, by rw [prs_snoc, pmap_snoc, List.length_append]; rfl⟩
theorem pvC (base : World) [Tab Tryz.prog base] (a b : DFA) (j k : DK) (bp m : Nat) (ks : List Nat) (c : Nat) (qb : Option Addr) (qc : Nat) (hl : ks.length ≤ 17000000) :
    CallT Tryz.prog base 110 [.pointer (some ⟨bp, 0, none⟩), (.agg #[.int .i64 ((c / b.next.length : Nat) : Int), .int .i64 ((c % b.next.length : Nat) : Int)])] [objI bp (.cells (List.toArray [(.int .i64 a.vars), (.int .i64 a.start), (.slice j.nb a.next.length j.nc), (.slice j.fb a.final.length j.fc), (.int .i64 b.vars), (.int .i64 b.start), (.slice k.nb b.next.length k.nc), (.slice k.fb b.final.length k.fc), (.slice qb ks.length qc), (.map (some m))]) 118 (0, 0)), rowI qb qc 114 2 (prs b.next.length ks), mapI pairV (fun n : Nat => Value.int .i64 (n : Int)) m (pmap b.next.length ks)] (fun v O' => v = .int .i64 ((ix c (add ks c) : Nat) : Int) ∧ ∃ qb' qc', O' = [objI bp (.cells (List.toArray [(.int .i64 a.vars), (.int .i64 a.start), (.slice j.nb a.next.length j.nc), (.slice j.fb a.final.length j.fc), (.int .i64 b.vars), (.int .i64 b.start), (.slice k.nb b.next.length k.nc), (.slice k.fb b.final.length k.fc), (.slice qb' ((add ks c).length) qc'), (.map (some m))]) 118 (0, 0)), rowI qb' qc' 114 2 (prs b.next.length (add ks c)), mapI pairV (fun n : Nat => Value.int .i64 (n : Int)) m (pmap b.next.length (add ks c))]) := by
  by_cases hk : c ∈ ks
  · exact pvHit base a b j k bp m ks c qb qc hk hl
  · exact pvNew base a b j k bp m ks c qb qc hk hl
end Go.Proofs.YtnpehjpookcfkaaGreatDoor


namespace Go.Proofs.YtnpehjpookcfkaaGreatDoor
open Go.Lx Go.RowKit _root_.Go.Proofs.Tryz
set_option linter.unusedVariables false
set_option linter.unusedSimpArgs false
theorem pvS (base : World) [Tab Tryz.prog base] (f : Bool → Bool → Bool) (a b : DFA) (j k : DK) (bp m i o x : Nat) (qb : Option Addr) (qc : Nat) (va : Valid a) (vb : Valid b) (hv : a.vars = b.vars) (hq : (bfsN (prodD f a b) i)[i]? = some o) (hx : x < 2 ^ a.vars.toNat) :
    CallT Tryz.prog base 110 [.pointer (some ⟨bp, 0, none⟩), (.agg #[.int .i64 (((toN (prodD f a b) o x) / b.next.length : Nat) : Int), .int .i64 (((toN (prodD f a b) o x) % b.next.length : Nat) : Int)])] [objI bp (.cells (List.toArray [(.int .i64 a.vars), (.int .i64 a.start), (.slice j.nb a.next.length j.nc), (.slice j.fb a.final.length j.fc), (.int .i64 b.vars), (.int .i64 b.start), (.slice k.nb b.next.length k.nc), (.slice k.fb b.final.length k.fc), (.slice qb ((bfsM (prodD f a b) i o x).length) qc), (.map (some m))]) 118 (0, 0)), rowI qb qc 114 2 (prs b.next.length (bfsM (prodD f a b) i o x)), mapI pairV (fun n : Nat => Value.int .i64 (n : Int)) m (pmap b.next.length (bfsM (prodD f a b) i o x))] (fun v O' => v = .int .i64 ((ix (toN (prodD f a b) o x) (order (prodD f a b)) : Nat) : Int) ∧ ∃ qb' qc', O' = [objI bp (.cells (List.toArray [(.int .i64 a.vars), (.int .i64 a.start), (.slice j.nb a.next.length j.nc), (.slice j.fb a.final.length j.fc), (.int .i64 b.vars), (.int .i64 b.start), (.slice k.nb b.next.length k.nc), (.slice k.fb b.final.length k.fc), (.slice qb' ((bfsM (prodD f a b) i o (x + 1)).length) qc'), (.map (some m))]) 118 (0, 0)), rowI qb' qc' 114 2 (prs b.next.length (bfsM (prodD f a b) i o (x + 1))), mapI pairV (fun n : Nat => Value.int .i64 (n : Int)) m (pmap b.next.length (bfsM (prodD f a b) i o (x + 1)))]) := by
  have ho := (pr_bfs_ok (f := f) va vb hv i).2 o (List.mem_of_getElem? hq)
  have hil := (List.getElem?_eq_some_iff.1 hq).1
  have hbl := pr_bfs_len (f := f) va vb hv i
  have hml := pr_bfsM_len (f := f) va vb hv (i := i) ho (Nat.le_of_lt hx)
  have h4 : a.next.length * b.next.length ≤ 4096 * 4096 := Nat.mul_le_mul va.n4 vb.n4
  rw [bfsM_step]
  refine (pvC base a b j k bp m (bfsM (prodD f a b) i o x) (toN (prodD f a b) o x) qb qc (by omega)).mono ?_
  rintro v O' ⟨rfl, h⟩
  refine ⟨?_, h⟩
  rw [← bfsM_step, visit_old hq (x := x + 1) hx (by rw [prod_len]; omega) (by rw [bfsM_step]; exact mem_add.2 (.inr rfl))]
theorem pairs1 (base : World) [Tab Tryz.prog base] (f : Bool → Bool → Bool) (a b : DFA) (j k : DK) (ha : At base a j) (hb : At base b k) (va : Valid a) (vb : Valid b) (hv : a.vars = b.vars) (L : Nat) (hL : 2 ^ a.vars.toNat = L) (bx bp m : Nat) (qb0 : Option Addr) (qc0 : Nat) (yv : Value) (J : Nat → List Lx.Item → Prop) (Q : List Lx.Item → Prop)
    (hy : ∀ (i o : Nat) (qb : Option Addr) (qc rb : Nat) (O : List Lx.Item), (bfsN (prodD f a b) i)[i]? = some o → J i O → CallV Tryz.prog base yv [(.agg #[.int .i64 ((o / b.next.length : Nat) : Int), .int .i64 ((o % b.next.length : Nat) : Int)]), .slice (some ⟨rb, 0, none⟩) L L] (O ++ [oI bp 118 [(.int .i64 a.vars), (.int .i64 a.start), (.slice j.nb a.next.length j.nc), (.slice j.fb a.final.length j.fc), (.int .i64 b.vars), (.int .i64 b.start), (.slice k.nb b.next.length k.nc), (.slice k.fb b.final.length k.fc), (.slice qb ((bfsN (prodD f a b) (i + 1)).length) qc), (.map (some m))], rowI qb qc 114 2 (prs b.next.length (bfsN (prodD f a b) (i + 1))), mapI pairV (fun n : Nat => Value.int .i64 (n : Int)) m (pmap b.next.length (bfsN (prodD f a b) (i + 1))), rowI (some ⟨rb, 0, none⟩) L 3 1 (ints (rnR (prodD f a b) o))])
      (fun v O' => (v = .bool true ∧ ∃ O2, O' = O2 ++ [oI bp 118 [(.int .i64 a.vars), (.int .i64 a.start), (.slice j.nb a.next.length j.nc), (.slice j.fb a.final.length j.fc), (.int .i64 b.vars), (.int .i64 b.start), (.slice k.nb b.next.length k.nc), (.slice k.fb b.final.length k.fc), (.slice qb ((bfsN (prodD f a b) (i + 1)).length) qc), (.map (some m))], rowI qb qc 114 2 (prs b.next.length (bfsN (prodD f a b) (i + 1))), mapI pairV (fun n : Nat => Value.int .i64 (n : Int)) m (pmap b.next.length (bfsN (prodD f a b) (i + 1)))] ∧ J (i + 1) O2) ∨ (v = .bool false ∧ Q O')))
    (O : List Lx.Item) (h0 : J 0 O) :
    CallT Tryz.prog base 109 [yv, .pointer (some ⟨bx, 0, none⟩)] ([oI bx 107 [(.pointer (some ⟨bp, 0, none⟩))], oI bp 118 [(.int .i64 a.vars), (.int .i64 a.start), (.slice j.nb a.next.length j.nc), (.slice j.fb a.final.length j.fc), (.int .i64 b.vars), (.int .i64 b.start), (.slice k.nb b.next.length k.nc), (.slice k.fb b.final.length k.fc), (.slice qb0 ((bfsN (prodD f a b) 0).length) qc0), (.map (some m))], rowI qb0 qc0 114 2 (prs b.next.length (bfsN (prodD f a b) 0)), mapI pairV (fun n : Nat => Value.int .i64 (n : Int)) m (pmap b.next.length (bfsN (prodD f a b) 0))] ++ O) (fun _ O' => (∃ N qb qc O2, O' = O2 ++ [oI bp 118 [(.int .i64 a.vars), (.int .i64 a.start), (.slice j.nb a.next.length j.nc), (.slice j.fb a.final.length j.fc), (.int .i64 b.vars), (.int .i64 b.start), (.slice k.nb b.next.length k.nc), (.slice k.fb b.final.length k.fc), (.slice qb ((bfsN (prodD f a b) N).length) qc), (.map (some m))], rowI qb qc 114 2 (prs b.next.length (bfsN (prodD f a b) N)), mapI pairV (fun n : Nat => Value.int .i64 (n : Int)) m (pmap b.next.length (bfsN (prodD f a b) N))] ∧ (bfsN (prodD f a b) N).length = N ∧ J N O2) ∨ Q O') := by
  refine CallT.enter Tryz.func109 rfl Tryz.ntmps109 rfl ?_
  have h4 : a.next.length * b.next.length ≤ 4096 * 4096 := Nat.mul_le_mul va.n4 vb.n4
  have hw : L ≤ 64 := by rw [← hL]; exact va.width
  have ha1 := ha.rows.1
  have hb1 := hb.rows.1
  refine T.s (T.rg ?_)
  refine TO.qa rfl ?_
  refine TO.nl (T.block ?_)
  refine T.loop (fun (i : Nat) ρ O => ∃ (qb : Option Addr) (qc : Nat) (O1 : List Lx.Item), O = ([oI bx 107 [(.pointer (some ⟨bp, 0, none⟩))], oI bp 118 [(.int .i64 a.vars), (.int .i64 a.start), (.slice j.nb a.next.length j.nc), (.slice j.fb a.final.length j.fc), (.int .i64 b.vars), (.int .i64 b.start), (.slice k.nb b.next.length k.nc), (.slice k.fb b.final.length k.fc), (.slice qb ((bfsN (prodD f a b) i).length) qc), (.map (some m))], rowI qb qc 114 2 (prs b.next.length (bfsN (prodD f a b) i)), mapI pairV (fun n : Nat => Value.int .i64 (n : Int)) m (pmap b.next.length (bfsN (prodD f a b) i))] ++ O1) ∧ i ≤ (bfsN (prodD f a b) i).length ∧ J i O1 ∧ Heads [(0, yv), (1, (.pointer (some ⟨bx, 0, none⟩))), (3, .int .i64 ((i : Nat) : Int))] ρ) (fun i => a.next.length * b.next.length - i) 0 ?_ ?_
  · exact ⟨qb0, qc0, O, rfl, Nat.zero_le _, h0, ⟨rfl, rfl, rfl, trivial⟩⟩
  rintro i ρ O ⟨qb, qc, O1, rfl, hle, hJ, hH⟩
  obtain ⟨ρ0, rfl⟩ := hH.elim
  clear hH
  have hbl := pr_bfs_len (f := f) va vb hv i
  refine T.s (T.s (T.rg ?_))
  refine TO.qm rfl (TO.q (q_lb 0 underlying107 rfl rfl rfl rfl) (TO.q (q_nilCheck rfl) (TO.q (q_fa underlying118 rfl inf115 rfl rfl) ?_)))
  refine TO.q (q_lb 1 underlying115 rfl rfl rfl rfl) (TO.q (q_len underlying115 rfl) (TO.q (q_lss rfl rfl) ?_))
  refine TO.nl ?_
  refine T.condP rfl (fun hc => ?_) (fun hc => ?_)
  · have hlt13 : i < (bfsN (prodD f a b) i).length := by omega
    obtain ⟨o, hq⟩ : ∃ o, (bfsN (prodD f a b) i)[i]? = some o := ⟨_, List.getElem?_eq_getElem hlt13⟩
    have ho := (pr_bfs_ok (f := f) va vb hv i).2 o (List.mem_of_getElem? hq)
    obtain ⟨hs, ht⟩ := pr_split ho
    obtain ⟨v1, c1, g1, s1⟩ := ha.rows.get hs
    obtain ⟨v2, c2, g2, s2⟩ := hb.rows.get ht
    refine T.skip (T.s (T.block (T.s (T.rg ?_))))
    refine TO.q (q_lb 0 underlying107 rfl rfl rfl rfl) (TO.q (q_nilCheck rfl) (TO.q (q_fa underlying118 rfl inf115 rfl rfl) (TO.q (q_lb 1 underlying115 rfl rfl rfl rfl) ?_)))
    refine TO.qm rfl (TO.q (q_ixK (i := i) underlying115 inf114 rfl rfl (rowO (mG 2 rfl)) hlt13 (by rw [prs_len]; omega)) (TO.q (q_ldK (vs := [.int .i64 ((o / b.next.length : Nat) : Int), .int .i64 ((o % b.next.length : Nat) : Int)]) underlying114 rfl inf114 rfl rfl (Nat.succ_pos _) (rowO (mG 2 rfl)) (prs_get hq)) ?_))
    refine TO.l rfl (l_alloc inf114 rfl (fun z1 => ?_))
    refine TO.l rfl (l_sb (v := (.agg #[.int .i64 ((o / b.next.length : Nat) : Int), .int .i64 ((o % b.next.length : Nat) : Int)])) (vs := [.int .i64 ((o / b.next.length : Nat) : Int), .int .i64 ((o % b.next.length : Nat) : Int)]) 0 inf114 rfl rfl rfl rfl rfl rfl (by simp [putL]) ?_)
    refine TO.nl (T.s (T.rg ?_))
    refine TO.q (q_lb 1 underlying107 rfl rfl rfl rfl) (TO.q (q_nilCheck rfl) (TO.q (q_fa underlying118 rfl inf25 rfl rfl) (TO.q (q_fa underlying25 rfl inf3 rfl rfl) ?_)))
    refine TO.q (q_lb 2 underlying3 rfl rfl rfl rfl) (TO.q (QT.cast (q_shl1 (v := a.vars.toNat) rfl (by show Value.int _ a.vars = _; rw [Int.toNat_of_nonneg va.v0]) (by have := va.v6; omega)) (v' := .int .i64 ((L : Nat) : Int)) (by rw [hL])) ?_)
    refine TO.l rfl (l_makeSlice (m := L) underlying48 inf3 rfl rfl (by omega) (by omega) (fun z2 => ?_))
    refine TO.qa rfl ?_
    refine TO.nl (T.s (T.s (T.rg ?_)))
    refine TO.qm rfl (TO.q (q_len underlying48 rfl) (TO.qm rfl ?_))
    refine TO.nl (T.block ?_)
    refine T.sub (O' := ([oI bp 118 [(.int .i64 a.vars), (.int .i64 a.start), (.slice j.nb a.next.length j.nc), (.slice j.fb a.final.length j.fc), (.int .i64 b.vars), (.int .i64 b.start), (.slice k.nb b.next.length k.nc), (.slice k.fb b.final.length k.fc), (.slice qb ((bfsN (prodD f a b) i).length) qc), (.map (some m))], rowI qb qc 114 2 (prs b.next.length (bfsN (prodD f a b) i)), mapI pairV (fun n : Nat => Value.int .i64 (n : Int)) m (pmap b.next.length (bfsN (prodD f a b) i)), rowI (some ⟨z2, 0, none⟩) L 3 1 (List.replicate L (.int .i64 0)), oI z1 114 [.int .i64 ((o / b.next.length : Nat) : Int), .int .i64 ((o % b.next.length : Nat) : Int)], oI bx 107 [(.pointer (some ⟨bp, 0, none⟩))]] ++ O1)) (by exact Sub.pull [rowI (some ⟨z2, 0, none⟩) L 3 1 (List.replicate L (.int .i64 0)), oI z1 114 [.int .i64 ((o / b.next.length : Nat) : Int), .int .i64 ((o % b.next.length : Nat) : Int)], oI bx 107 [(.pointer (some ⟨bp, 0, none⟩))]] _ (.pull [rowI (some ⟨z2, 0, none⟩) L 3 1 (List.replicate L (.int .i64 0)), oI z1 114 [.int .i64 ((o / b.next.length : Nat) : Int), .int .i64 ((o % b.next.length : Nat) : Int)], oI bx 107 [(.pointer (some ⟨bp, 0, none⟩))]] _ (.pull [rowI (some ⟨z2, 0, none⟩) L 3 1 (List.replicate L (.int .i64 0)), oI z1 114 [.int .i64 ((o / b.next.length : Nat) : Int), .int .i64 ((o % b.next.length : Nat) : Int)], oI bx 107 [(.pointer (some ⟨bp, 0, none⟩))]] _ (.k (.k (.k .rf)))))) ?_
    refine T.loop (fun (x : Nat) ρ O => ∃ (qbm : Option Addr) (qcm : Nat) (ys : List Nat), O = ([oI bp 118 [(.int .i64 a.vars), (.int .i64 a.start), (.slice j.nb a.next.length j.nc), (.slice j.fb a.final.length j.fc), (.int .i64 b.vars), (.int .i64 b.start), (.slice k.nb b.next.length k.nc), (.slice k.fb b.final.length k.fc), (.slice qbm ((bfsM (prodD f a b) i o x).length) qcm), (.map (some m))], rowI qbm qcm 114 2 (prs b.next.length (bfsM (prodD f a b) i o x)), mapI pairV (fun n : Nat => Value.int .i64 (n : Int)) m (pmap b.next.length (bfsM (prodD f a b) i o x)), rowI (some ⟨z2, 0, none⟩) L 3 1 (nats ys), oI z1 114 [.int .i64 ((o / b.next.length : Nat) : Int), .int .i64 ((o % b.next.length : Nat) : Int)], oI bx 107 [(.pointer (some ⟨bp, 0, none⟩))]] ++ O1) ∧ x ≤ L ∧ ys.length = L ∧ (∀ y, y < x → ys[y]? = some (ix (toN (prodD f a b) o y) (order (prodD f a b)))) ∧ Heads [(0, yv), (1, (.pointer (some ⟨bx, 0, none⟩))), (3, .int .i64 ((i : Nat) : Int)), (4, (.pointer (some ⟨z1, 0, none⟩))), (5, (.slice (some ⟨z2, 0, none⟩) L L)), (31, .int .i64 (L : Int)), (32, .int .i64 ((x : Nat) : Int))] ρ) (fun x => L - x) 0 ?_ ?_
    · refine ⟨qb, qc, List.replicate L 0, ?_, Nat.zero_le _, by simp, fun y hy9 => absurd hy9 (by omega), ⟨rfl, rfl, rfl, rfl, rfl, rfl, rfl, trivial⟩⟩
      rw [show List.replicate L (Value.int .i64 0) = nats (List.replicate L 0) by simp]; rfl
    rintro x ρ O ⟨qbm, qcm, ys, rfl, hx, hyl, hys, hH⟩
    obtain ⟨ρ0, rfl⟩ := hH.elim
    clear hH
    refine T.s (T.rg ?_)
    refine TO.q (q_lss rfl rfl) ?_
    refine TO.nl (T.s ?_)
    refine T.condP rfl (fun hc => ?_) (fun hc => ?_)
    · have hlt33 : x < L := by omega
      have hxa : x < 2 ^ a.vars.toNat := by omega
      have hxb : x < 2 ^ b.vars.toNat := by rw [← hv]; exact hxa
      obtain ⟨t1, _, x1, d1⟩ := va.toN_lt hs hxa
      obtain ⟨t2, _, x2, d2⟩ := vb.toN_lt ht hxb
      have hst := (pr_toN_lt (f := f) va vb hv ho hxa).1
      have hdm := pr_div (n := b.next.length) (s := toN a (o / b.next.length) x) t2
      rw [← hst] at hdm
      have hx1 : (ints a.next[o / b.next.length])[x]? = some (.int .i64 ((toN (prodD f a b) o x / b.next.length : Nat) : Int)) := by rw [ints_get x1, d1, hdm.1]
      have hx2 : (ints b.next[o % b.next.length])[x]? = some (.int .i64 ((toN (prodD f a b) o x % b.next.length : Nat) : Int)) := by rw [ints_get x2, d2, hdm.2]
      refine T.skip (T.s (T.block (T.s (T.rg ?_))))
      refine TO.qm rfl (TO.qa rfl ?_)
      refine TO.nl ?_
      refine T.draws2 [] [oI bp 118 [(.int .i64 a.vars), (.int .i64 a.start), (.slice j.nb a.next.length j.nc), (.slice j.fb a.final.length j.fc), (.int .i64 b.vars), (.int .i64 b.start), (.slice k.nb b.next.length k.nc), (.slice k.fb b.final.length k.fc), (.slice qbm ((bfsM (prodD f a b) i o x).length) qcm), (.map (some m))], oI z1 114 [.int .i64 ((o / b.next.length : Nat) : Int), .int .i64 ((o % b.next.length : Nat) : Int)], oI bx 107 [(.pointer (some ⟨bp, 0, none⟩))]] [(0, 0), (1, 0), (2, 3), (3, 3), (4, 3), (5, 3), (6, 3), (7, 3), (8, 3), (9, 3), (10, 3), (11, 3), (12, 3), (13, 3), (14, 3), (15, 3), (16, 3), (17, 3), (18, 3), (19, 3), (20, 3), (21, 3), (22, 3), (23, 3), (24, 3), (25, 3), (26, 3), (27, 3), (28, 4), (29, 2), (30, 2)] mixed (drawF_ok (by kernel_rfl)) (Sub.of (List.nil_sublist _)) (by exact Sub.k (.d (.d (.d (.k (.k .z)))))) (fun _ _ _ h => h) ?_
      refine DO.q rfl (q_move rfl) (DO.q rfl (q_move rfl) ?_)
      refine DO.quiet2 rfl (q_lb 2 underlying107 rfl rfl rfl rfl) ?_
      refine DO.quiet2 rfl (q_lb 2 underlying107 rfl rfl rfl rfl) ?_
      refine DO.quiet2 rfl (q_nilCheck rfl) ?_
      refine DO.quiet2 rfl (q_fa underlying118 rfl inf25 rfl rfl) ?_
      refine DO.quiet2 rfl (q_fa underlying25 rfl inf22 rfl rfl) ?_
      refine DO.quiet2 rfl (q_lb 0 underlying22 rfl rfl rfl rfl) ?_
      refine DO.quiet2 rfl (q_fa underlying114 rfl inf3 rfl rfl) ?_
      refine DO.quiet2 rfl (q_lb 1 underlying3 rfl rfl rfl rfl) ?_
      refine DO.quiet2 rfl (q_ix (i := (o / b.next.length)) underlying22 inf48 rfl rfl (Sl.o ha.outer) hs (by rw [ha1]; exact hs)) ?_
      refine DO.quiet2 rfl (q_ld underlying48 rfl rfl (Sl.o ha.outer) g1) ?_
      refine DO.quiet2 rfl (q_move rfl) ?_
      refine DO.quiet2 rfl (q_ix (i := x) underlying48 inf3 rfl rfl (Sl.o s1) x1 (by rw [List.length_map]; exact x1)) ?_
      refine DO.quiet2 rfl (q_ld underlying3 rfl rfl (Sl.o s1) hx1) ?_
      refine DO.quiet2 rfl (q_lb 2 underlying107 rfl rfl rfl rfl) ?_
      refine DO.quiet2 rfl (q_nilCheck rfl) ?_
      refine DO.quiet2 rfl (q_fa underlying118 rfl inf25 rfl rfl) ?_
      refine DO.quiet2 rfl (q_fa underlying25 rfl inf22 rfl rfl) ?_
      refine DO.quiet2 rfl (q_lb 0 underlying22 rfl rfl rfl rfl) ?_
      refine DO.quiet2 rfl (q_fa underlying114 rfl inf3 rfl rfl) ?_
      refine DO.quiet2 rfl (q_lb 1 underlying3 rfl rfl rfl rfl) ?_
      refine DO.quiet2 rfl (q_ix (i := (o % b.next.length)) underlying22 inf48 rfl rfl (Sl.o hb.outer) ht (by rw [hb1]; exact ht)) ?_
      refine DO.quiet2 rfl (q_ld underlying48 rfl rfl (Sl.o hb.outer) g2) ?_
      refine DO.quiet2 rfl (q_move rfl) ?_
      refine DO.quiet2 rfl (q_ix (i := x) underlying48 inf3 rfl rfl (Sl.o s2) x2 (by rw [List.length_map]; exact x2)) ?_
      refine DO.quiet2 rfl (q_ld underlying3 rfl rfl (Sl.o s2) hx2) ?_
      refine DO.quiet2 rfl (q_build (cs := [.int .i64 (((toN (prodD f a b) o x) / b.next.length : Nat) : Int), .int .i64 (((toN (prodD f a b) o x) % b.next.length : Nat) : Int)]) plan114 inf114 (by kernel_rfl)) ?_
      have hk63 := CallT.under (B := ([rowI (some ⟨z2, 0, none⟩) L 3 1 (nats ys), oI z1 114 [.int .i64 ((o / b.next.length : Nat) : Int), .int .i64 ((o % b.next.length : Nat) : Int)], oI bx 107 [(.pointer (some ⟨bp, 0, none⟩))]] ++ O1)) (O := ([oI bp 118 [(.int .i64 a.vars), (.int .i64 a.start), (.slice j.nb a.next.length j.nc), (.slice j.fb a.final.length j.fc), (.int .i64 b.vars), (.int .i64 b.start), (.slice k.nb b.next.length k.nc), (.slice k.fb b.final.length k.fc), (.slice qbm ((bfsM (prodD f a b) i o x).length) qcm), (.map (some m))], rowI qbm qcm 114 2 (prs b.next.length (bfsM (prodD f a b) i o x)), mapI pairV (fun n : Nat => Value.int .i64 (n : Int)) m (pmap b.next.length (bfsM (prodD f a b) i o x)), rowI (some ⟨z2, 0, none⟩) L 3 1 (nats ys), oI z1 114 [.int .i64 ((o / b.next.length : Nat) : Int), .int .i64 ((o % b.next.length : Nat) : Int)], oI bx 107 [(.pointer (some ⟨bp, 0, none⟩))]] ++ O1)) (pvS base f a b j k bp m i o x qbm qcm va vb hv hq (by omega)) (by exact Sub.rf)
      refine DO.last2 rfl rfl (l_call ent110 hk63 rfl ?_)
      clear hk63
      rintro vr O' ⟨A1, rfl, rfl, qb2, qc2, rfl⟩
      refine ⟨by exact Sub.z, ?_⟩
      refine DO.last rfl rfl (LT.oq rfl rfl (q_ix (i := x) underlying48 inf3 rfl rfl (rowO (mG 3 rfl))) ?_)
      refine DO.last rfl rfl (l_st (j := x) (v := .int .i64 ((ix (toN (prodD f a b) o x) (order (prodD f a b)) : Nat) : Int)) (vs := [(.int .i64 ((ix (toN (prodD f a b) o x) (order (prodD f a b)) : Nat) : Int))]) (cs := nats ys) 3 inf3 rfl rfl rfl rfl rfl (by simp) rfl (by first | (simp; omega) | (simp_all; omega)) ?_)
      refine DO.sub (O' := ([oI bp 118 [(.int .i64 a.vars), (.int .i64 a.start), (.slice j.nb a.next.length j.nc), (.slice j.fb a.final.length j.fc), (.int .i64 b.vars), (.int .i64 b.start), (.slice k.nb b.next.length k.nc), (.slice k.fb b.final.length k.fc), (.slice qb2 ((bfsM (prodD f a b) i o (x + 1)).length) qc2), (.map (some m))], rowI qb2 qc2 114 2 (prs b.next.length (bfsM (prodD f a b) i o (x + 1))), mapI pairV (fun n : Nat => Value.int .i64 (n : Int)) m (pmap b.next.length (bfsM (prodD f a b) i o (x + 1))), rowI (some ⟨z2, 0, none⟩) L 3 1 (nats (ys.set x (ix (toN (prodD f a b) o x) (order (prodD f a b))))), oI z1 114 [.int .i64 ((o / b.next.length : Nat) : Int), .int .i64 ((o % b.next.length : Nat) : Int)], oI bx 107 [(.pointer (some ⟨bp, 0, none⟩))]] ++ O1)) (by rw [show putL (nats ys) x [(.int .i64 ((ix (toN (prodD f a b) o x) (order (prodD f a b)) : Nat) : Int))] = nats (ys.set x (ix (toN (prodD f a b) o x) (order (prodD f a b)))) from by simp [putL]]; exact Sub.of (List.Sublist.refl _)) ?_
      refine DO.done ?_
      refine T.rg ?_
      refine TO.q (q_addN (a := x) (b := 1) rfl rfl (by omega)) (TO.qm rfl ?_)
      refine TO.nl ?_
      refine ⟨x + 1, by omega, qb2, qc2, ys.set x (ix (toN (prodD f a b) o x) (order (prodD f a b))), rfl, by omega, by simp [hyl], fun y hy9 => ?_, ⟨rfl, rfl, rfl, rfl, rfl, rfl, rfl, trivial⟩⟩
      by_cases e : y = x
      · subst e; rw [List.getElem?_set_self (by omega)]
      · rw [List.getElem?_set_ne (fun h => e h.symm)]; exact hys y (by omega)
    have hge33 : ¬ x < L := by omega
    refine T.exit ?_
    refine T.s ?_
    have hxe : x = L := by omega
    have e1 : bfsN (prodD f a b) (i + 1) = bfsM (prodD f a b) i o x := by rw [hxe, ← hL]; exact (bfsM_full hq).symm
    have e3 : renRow (prodD f a b) o = ys := by
      apply List.ext_getElem?
      intro y
      by_cases hy9 : y < L
      · rw [hys y (by omega)]
        have hy8 : y < 2 ^ (prodD f a b).vars.toNat := by show y < 2 ^ a.vars.toNat; omega
        unfold renRow
        rw [List.getElem?_map, sucs_get hy8]; rfl
      · rw [List.getElem?_eq_none (by rw [renRow_length]; show 2 ^ a.vars.toNat ≤ y; omega), List.getElem?_eq_none (by omega)]
    have e2 : ints (rnR (prodD f a b) o) = nats ys := by unfold rnR; rw [e3]; simp [Function.comp_def]
    refine T.sub (O' := ([oI bp 118 [(.int .i64 a.vars), (.int .i64 a.start), (.slice j.nb a.next.length j.nc), (.slice j.fb a.final.length j.fc), (.int .i64 b.vars), (.int .i64 b.start), (.slice k.nb b.next.length k.nc), (.slice k.fb b.final.length k.fc), (.slice qbm ((bfsN (prodD f a b) (i + 1)).length) qcm), (.map (some m))], rowI qbm qcm 114 2 (prs b.next.length (bfsN (prodD f a b) (i + 1))), mapI pairV (fun n : Nat => Value.int .i64 (n : Int)) m (pmap b.next.length (bfsN (prodD f a b) (i + 1))), rowI (some ⟨z2, 0, none⟩) L 3 1 (ints (rnR (prodD f a b) o)), oI z1 114 [.int .i64 ((o / b.next.length : Nat) : Int), .int .i64 ((o % b.next.length : Nat) : Int)], oI bx 107 [(.pointer (some ⟨bp, 0, none⟩))]] ++ O1)) (by rw [e1, e2]; exact Sub.rf) ?_
    refine T.rg ?_
    refine TO.qm rfl (TO.q (q_la 4 underlying114 rfl inf114 rfl rfl rfl) (TO.qm rfl ?_))
    have hk69 := CallV.under (B := [oI z1 114 [.int .i64 ((o / b.next.length : Nat) : Int), .int .i64 ((o % b.next.length : Nat) : Int)], oI bx 107 [(.pointer (some ⟨bp, 0, none⟩))]]) (O := ([oI bp 118 [(.int .i64 a.vars), (.int .i64 a.start), (.slice j.nb a.next.length j.nc), (.slice j.fb a.final.length j.fc), (.int .i64 b.vars), (.int .i64 b.start), (.slice k.nb b.next.length k.nc), (.slice k.fb b.final.length k.fc), (.slice qbm ((bfsN (prodD f a b) (i + 1)).length) qcm), (.map (some m))], rowI qbm qcm 114 2 (prs b.next.length (bfsN (prodD f a b) (i + 1))), mapI pairV (fun n : Nat => Value.int .i64 (n : Int)) m (pmap b.next.length (bfsN (prodD f a b) (i + 1))), rowI (some ⟨z2, 0, none⟩) L 3 1 (ints (rnR (prodD f a b) o)), oI z1 114 [.int .i64 ((o / b.next.length : Nat) : Int), .int .i64 ((o % b.next.length : Nat) : Int)], oI bx 107 [(.pointer (some ⟨bp, 0, none⟩))]] ++ O1)) (hy i o qbm qcm z2 O1 hq hJ) (Sub.ca [])
    refine TO.l rfl (l_callG hk69 rfl rfl ?_)
    clear hk69
    rintro vr O' ⟨A1, rfl, ⟨rfl, O2, rfl, hJ2⟩ | ⟨rfl, hQ2⟩⟩
    · refine TO.q (q_not rfl) ?_
      refine TO.nl ?_
      refine T.cond0 rfl ?_
      refine T.skip ?_
      refine T.sub (O' := ([oI bx 107 [(.pointer (some ⟨bp, 0, none⟩))], oI bp 118 [(.int .i64 a.vars), (.int .i64 a.start), (.slice j.nb a.next.length j.nc), (.slice j.fb a.final.length j.fc), (.int .i64 b.vars), (.int .i64 b.start), (.slice k.nb b.next.length k.nc), (.slice k.fb b.final.length k.fc), (.slice qbm ((bfsN (prodD f a b) (i + 1)).length) qcm), (.map (some m))], rowI qbm qcm 114 2 (prs b.next.length (bfsN (prodD f a b) (i + 1))), mapI pairV (fun n : Nat => Value.int .i64 (n : Int)) m (pmap b.next.length (bfsN (prodD f a b) (i + 1)))] ++ O2)) (Sub.cnt [oI z1 114 [.int .i64 ((o / b.next.length : Nat) : Int), .int .i64 ((o % b.next.length : Nat) : Int)]] (by intro a; simp only [itms, oI, List.set_cons_zero, List.set_cons_succ, putL, List.cons_append, List.nil_append, List.append_nil, List.append_assoc, List.map_append, List.map_cons, List.map_nil, cnt_append, cnt_cons, cnt_nil] <;> omega)) ?_
      refine T.rg ?_
      refine TO.qm rfl (TO.q (q_addN (a := i) (b := 1) rfl rfl (by omega)) (TO.qa rfl ?_))
      refine TO.nl ?_
      have hpl := (bfsN_prefix (prodD f a b) i (i + 1) (by omega)).length_le
      exact ⟨i + 1, by omega, qbm, qcm, O2, rfl, by omega, hJ2, ⟨rfl, rfl, rfl, trivial⟩⟩
    refine TO.q (q_not rfl) ?_
    refine TO.nl ?_
    refine T.cond1 rfl ?_
    refine T.ret (Res.drop ?_)
    refine Res.zero Tryz.results109 ?_
    exact ⟨A1, Sub.of (List.sublist_append_left _ _), .inr hQ2⟩
  have hge13 : ¬ i < (bfsN (prodD f a b) i).length := by omega
  refine T.exit ?_
  refine Res.drop ?_
  refine Res.zero Tryz.results109 ?_
  have hN : (bfsN (prodD f a b) i).length = i := by omega
  exact ⟨O1 ++ [oI bp 118 [(.int .i64 a.vars), (.int .i64 a.start), (.slice j.nb a.next.length j.nc), (.slice j.fb a.final.length j.fc), (.int .i64 b.vars), (.int .i64 b.start), (.slice k.nb b.next.length k.nc), (.slice k.fb b.final.length k.fc), (.slice qb ((bfsN (prodD f a b) i).length) qc), (.map (some m))], rowI qb qc 114 2 (prs b.next.length (bfsN (prodD f a b) i)), mapI pairV (fun n : Nat => Value.int .i64 (n : Int)) m (pmap b.next.length (bfsN (prodD f a b) i))], Sub.cnt [oI bx 107 [(.pointer (some ⟨bp, 0, none⟩))]] (by intro a; simp only [itms, oI, List.set_cons_zero, List.set_cons_succ, putL, List.cons_append, List.nil_append, List.append_nil, List.append_assoc, List.map_append, List.map_cons, List.map_nil, cnt_append, cnt_cons, cnt_nil] <;> omega), .inl ⟨i, qb, qc, O1, rfl, hN, hJ⟩⟩
end Go.Proofs.YtnpehjpookcfkaaGreatDoor


namespace Go.Proofs.YtnpehjpookcfkaaGreatDoor
open Go.Lx Go.RowKit _root_.Go.Proofs.Tryz
set_option linter.unusedVariables false
set_option linter.unusedSimpArgs false
theorem minK (w : World) [Tab Tryz.prog w] (d : DFA) (k : DK) (h : At w d k) (hb : d.next.length < 9223372036854775807) (hbr : ∀ r ∈ d.next, r.length < 9223372036854775807) (hbf : d.final.length < 9223372036854775807) (hn : Valid d → d.next.length < 10000) :
    PureT Tryz.prog 39 [dV d k] w fun v N => ∃ k' : DK, v = .tuple #[dV (minV d) k', .int .i64 (checkD d : Int)] ∧ N = [dI 48 4 3 (minV d) k'] :=
  CallT.dk (g := fun x => .tuple #[x, .int .i64 (checkD d : Int)]) (minA w d k.nb k.fb k.nc k.fc (vals k.qs) h hb hbr hbf hn)
theorem minKE (w : World) [Tab Tryz.prog w] (d : DFA) (k : DK) (h : At w d k) (hv : Valid d) (hn : d.next.length < 10000) {M : DFA} (hM : minD d = M) :
    PureT Tryz.prog 39 [dV d k] w fun v N => ∃ k' : DK, v = .tuple #[dV M k', .int .i64 0] ∧ N = [dI 48 4 3 M k'] := by
  have h1 := minK w d k h (by have := hv.n4; omega) hv.bound (by have := hv.fin; have := hv.n4; omega) (fun _ => hn)
  rw [minV_valid hv, hM, checkD_zero.2 hv] at h1
  exact h1
theorem rMinK (w : World) [Tab Tryz.prog w] (d : DFA) (k : DK) (h : At w d k) (hb : d.next.length < 9223372036854775807) (hbr : ∀ r ∈ d.next, r.length < 9223372036854775807) (hbf : d.final.length < 9223372036854775807) (hn : Valid d → d.next.length < 10000) :
    PureT Tryz.prog 41 [dV d k] w fun v N => ∃ k' : DK, v = .tuple #[dV (minV d) k', .int .i64 (checkD d : Int)] ∧ N = [dI 48 4 3 (minV d) k'] :=
  CallT.dk (g := fun x => .tuple #[x, .int .i64 (checkD d : Int)]) (rMinA w d k.nb k.fb k.nc k.fc (vals k.qs) h hb hbr hbf hn)
theorem rMinKE (w : World) [Tab Tryz.prog w] (d : DFA) (k : DK) (h : At w d k) (hv : Valid d) (hn : d.next.length < 10000) {M : DFA} (hM : minD d = M) :
    PureT Tryz.prog 41 [dV d k] w fun v N => ∃ k' : DK, v = .tuple #[dV M k', .int .i64 0] ∧ N = [dI 48 4 3 M k'] := by
  have h1 := rMinK w d k h (by have := hv.n4; omega) hv.bound (by have := hv.fin; have := hv.n4; omega) (fun _ => hn)
  rw [minV_valid hv, hM, checkD_zero.2 hv] at h1
  exact h1
theorem notF (base : World) (x y : Bool) : CallT Tryz.prog base 101 [.bool x, .bool y] [] (fun v O' => v = .bool (notB x y) ∧ O' = []) := by
  refine CallT.enter Tryz.func101 rfl Tryz.ntmps101 rfl ?_
  refine T.s (T.rg ?_)
  refine TO.qa rfl ?_
  refine TO.nl (T.s (T.rg ?_))
  refine TO.qm rfl (TO.q (q_not rfl) (TO.qa rfl ?_))
  refine TO.nl (T.ret ?_)
  refine Res.one (.bool (!x)) Tryz.results101 rfl ?_
  cases x <;> cases y <;> first | exact ⟨rfl, rfl⟩ | (exfalso; simp_all; done) | simp_all [andB, orB, xorB, minusB, notB]
set_option maxRecDepth 20000 in
theorem notFV (base : World) (x y : Bool) : CallV Tryz.prog base (.func (.func 101) #[] #[]) [.bool x, .bool y] [] (fun v O' => v = .bool (notB x y) ∧ O' = []) := CallV.of_fn (first := []) (caps := []) ent101 (notF base x y)
theorem andF (base : World) (x y : Bool) : CallT Tryz.prog base 72 [.bool x, .bool y] [] (fun v O' => v = .bool (andB x y) ∧ O' = []) := by
  refine CallT.enter Tryz.func72 rfl Tryz.ntmps72 rfl ?_
  refine T.s (T.rg ?_)
  refine TO.qa rfl ?_
  refine TO.nl (T.s (T.rg ?_))
  refine TO.qm rfl ?_
  by_cases hs6 : x = true
  · refine TO.q (QT.toB (q_move rfl) (hs6)) ?_
    refine TO.gd rfl rfl rfl (LT.oq rfl rfl (q_move rfl) ?_)
    refine TO.q (q_pick1 rfl rfl) (TO.qa rfl ?_)
    refine TO.nl (T.ret ?_)
    refine Res.one (.bool y) Tryz.results72 rfl ?_
    cases x <;> cases y <;> first | exact ⟨rfl, rfl⟩ | (exfalso; simp_all; done) | simp_all [andB, orB, xorB, minusB, notB]
  refine TO.q (QT.toB (q_move rfl) (Bool.eq_false_iff.2 hs6)) ?_
  refine TO.pd rfl rfl ?_
  refine TO.q (q_pick0 rfl rfl) (TO.qa rfl ?_)
  refine TO.nl (T.ret ?_)
  refine Res.one (.bool false) Tryz.results72 rfl ?_
  cases x <;> cases y <;> first | exact ⟨rfl, rfl⟩ | (exfalso; simp_all; done) | simp_all [andB, orB, xorB, minusB, notB]
set_option maxRecDepth 20000 in
theorem andFV (base : World) (x y : Bool) : CallV Tryz.prog base (.func (.func 72) #[] #[]) [.bool x, .bool y] [] (fun v O' => v = .bool (andB x y) ∧ O' = []) := CallV.of_fn (first := []) (caps := []) ent72 (andF base x y)
theorem orF (base : World) (x y : Bool) : CallT Tryz.prog base 82 [.bool x, .bool y] [] (fun v O' => v = .bool (orB x y) ∧ O' = []) := by
  refine CallT.enter Tryz.func82 rfl Tryz.ntmps82 rfl ?_
  refine T.s (T.rg ?_)
  refine TO.qa rfl ?_
  refine TO.nl (T.s (T.rg ?_))
  refine TO.qm rfl ?_
  by_cases hs6 : x = true
  · refine TO.q (QT.toB (q_move rfl) (hs6)) ?_
    refine TO.pd rfl rfl ?_
    refine TO.q (q_pick1 rfl rfl) (TO.qa rfl ?_)
    refine TO.nl (T.ret ?_)
    refine Res.one (.bool true) Tryz.results82 rfl ?_
    cases x <;> cases y <;> first | exact ⟨rfl, rfl⟩ | (exfalso; simp_all; done) | simp_all [andB, orB, xorB, minusB, notB]
  refine TO.q (QT.toB (q_move rfl) (Bool.eq_false_iff.2 hs6)) ?_
  refine TO.gd rfl rfl rfl (LT.oq rfl rfl (q_move rfl) ?_)
  refine TO.q (q_pick0 rfl rfl) (TO.qa rfl ?_)
  refine TO.nl (T.ret ?_)
  refine Res.one (.bool y) Tryz.results82 rfl ?_
  cases x <;> cases y <;> first | exact ⟨rfl, rfl⟩ | (exfalso; simp_all; done) | simp_all [andB, orB, xorB, minusB, notB]
set_option maxRecDepth 20000 in
theorem orFV (base : World) (x y : Bool) : CallV Tryz.prog base (.func (.func 82) #[] #[]) [.bool x, .bool y] [] (fun v O' => v = .bool (orB x y) ∧ O' = []) := CallV.of_fn (first := []) (caps := []) ent82 (orF base x y)
theorem minusF (base : World) (x y : Bool) : CallT Tryz.prog base 74 [.bool x, .bool y] [] (fun v O' => v = .bool (minusB x y) ∧ O' = []) := by
  refine CallT.enter Tryz.func74 rfl Tryz.ntmps74 rfl ?_
  refine T.s (T.rg ?_)
  refine TO.qa rfl ?_
  refine TO.nl (T.s (T.rg ?_))
  refine TO.qm rfl ?_
  by_cases hs6 : x = true
  · refine TO.q (QT.toB (q_move rfl) (hs6)) ?_
    refine TO.gd rfl rfl rfl (LT.oq rfl rfl (q_move rfl) ?_)
    refine TO.gd rfl rfl rfl (LT.oq rfl rfl (q_not rfl) ?_)
    refine TO.q (q_pick1 rfl rfl) (TO.qa rfl ?_)
    refine TO.nl (T.ret ?_)
    refine Res.one (.bool (!y)) Tryz.results74 rfl ?_
    cases x <;> cases y <;> first | exact ⟨rfl, rfl⟩ | (exfalso; simp_all; done) | simp_all [andB, orB, xorB, minusB, notB]
  refine TO.q (QT.toB (q_move rfl) (Bool.eq_false_iff.2 hs6)) ?_
  refine TO.pd rfl rfl ?_
  refine TO.pd rfl rfl ?_
  refine TO.q (q_pick0 rfl rfl) (TO.qa rfl ?_)
  refine TO.nl (T.ret ?_)
  refine Res.one (.bool false) Tryz.results74 rfl ?_
  cases x <;> cases y <;> first | exact ⟨rfl, rfl⟩ | (exfalso; simp_all; done) | simp_all [andB, orB, xorB, minusB, notB]
set_option maxRecDepth 20000 in
theorem minusFV (base : World) (x y : Bool) : CallV Tryz.prog base (.func (.func 74) #[] #[]) [.bool x, .bool y] [] (fun v O' => v = .bool (minusB x y) ∧ O' = []) := CallV.of_fn (first := []) (caps := []) ent74 (minusF base x y)
theorem combineBad (w : World) [Tab Tryz.prog w] (a b : DFA) (j k : DK) (ha : At w a j) (hb : At w b k) (haa : a.next.length < 9223372036854775807) (haar : ∀ r ∈ a.next, r.length < 9223372036854775807) (haaf : a.final.length < 9223372036854775807) (hbb : b.next.length < 9223372036854775807) (hbbr : ∀ r ∈ b.next, r.length < 9223372036854775807) (hbbf : b.final.length < 9223372036854775807) (g : Nat) (he : wrongD a b ≠ 0) :
    PureT Tryz.prog 71 [dV a j, dV b k, .func (.func g) #[] #[]] w fun v N => v = .tuple #[dV noD ⟨none, 0, none, 0, []⟩, .int .i64 (wrongD a b : Int)] ∧ N = [] := by
  refine CallT.enter Tryz.func71 rfl Tryz.ntmps71 rfl ?_
  refine T.s (T.rg ?_)
  refine TO.l rfl (l_box (v := (dV a j)) (cs := (dC a j)) rfl rfl (fun bx1 => ?_))
  refine TO.l rfl (l_box (v := (dV b k)) (cs := (dC b k)) rfl rfl (fun bx2 => ?_))
  refine TO.l rfl (l_box (v := (.func (.func g) #[] #[])) (cs := [(.func (.func g) #[] #[])]) rfl rfl (fun bx3 => ?_))
  refine TO.l rfl (l_alloc inf25 rfl (fun bx4 => ?_))
  refine TO.l rfl (l_alloc inf30 rfl (fun bx5 => ?_))
  refine TO.nl (T.s (T.rg ?_))
  refine TO.q (q_la 4 underlying25 rfl inf25 rfl rfl rfl) (TO.q (q_la 3 underlying25 rfl inf25 rfl rfl rfl) ?_)
  have hk16 := fun (w1 : World) (hI : Inv w [oI bx5 30 [(.int .i64 0)], oI bx4 25 [(.int .i64 0), (.int .i64 0), (.slice none 0 0), (.slice none 0 0)], oI bx3 89 [(.func (.func g) #[] #[])], oI bx2 25 (dC b k), oI bx1 25 (dC a j)] w1) => (haveI := tbz hI; beginBad w1 a b j k (hI.atB ha) (hI.atB hb) haa haar haaf hbb hbbr hbbf he)
  refine TO.l rfl (l_call ent95 (CallT.op hk16) rfl ?_)
  clear hk16
  rintro vr O' ⟨N, rfl, rfl, rfl⟩
  refine TO.qm rfl (TO.q (q_extract (vs := _) rfl rfl) (TO.q (q_extract (vs := _) rfl rfl) ?_))
  refine TO.l rfl (l_alloc inf107 rfl (fun bx6 => ?_))
  refine TO.l rfl (l_sb (v := .pointer none) (vs := [(.pointer none)]) 0 inf107 rfl rfl rfl rfl rfl rfl (by simp [putL]) ?_)
  refine TO.qa rfl ?_
  refine TO.nl (T.s (T.s (T.rg ?_)))
  refine TO.qm rfl (TO.q (q_neq rfl rfl) ?_)
  refine TO.nl ?_
  refine T.cond1 (congrArg Value.bool (decide_eq_true (by omega))) ?_
  refine T.s (T.rg ?_)
  refine TO.q (q_build plan25 inf25 rfl) (TO.qm rfl ?_)
  refine TO.l rfl (l_sb (v := (.agg #[(.int .i64 0), (.int .i64 0), (.slice none 0 0), (.slice none 0 0)])) (vs := [(.int .i64 0), (.int .i64 0), (.slice none 0 0), (.slice none 0 0)]) 2 inf25 rfl rfl rfl rfl rfl rfl (by simp [putL]) ?_)
  refine TO.l rfl (l_sb (v := .int .i64 (wrongD a b : Int)) (vs := [(.int .i64 (wrongD a b : Int))]) 1 inf30 rfl rfl rfl rfl rfl rfl (by simp [putL]) ?_)
  refine TO.nl (T.ret (Res.drop ?_))
  refine Res.cell2a (i := 2) (j := 1) Tryz.results71 underlying25 rfl inf25 underlying30 rfl rfl rfl rfl rfl rfl ?_
  exact ⟨[], Sub.z, rfl, rfl⟩
theorem combineW (w : World) [Tab Tryz.prog w] (a b : DFA) (j k : DK) (ha : At w a j) (hb : At w b k) (va : Valid a) (vb : Valid b) (hv : a.vars = b.vars) (f : Bool → Bool → Bool) (g : Nat) (hf : ∀ (base : World) (x y : Bool), CallV Tryz.prog base (.func (.func g) #[] #[]) [.bool x, .bool y] [] (fun v O' => v = .bool (f x y) ∧ O' = [])) (hN8 : (order (prodD f a b)).length ≤ 4096) :
    PureT Tryz.prog 71 [dV a j, dV b k, .func (.func g) #[] #[]] w fun v N => ∃ k' : DK, v = .tuple #[dV (opD f a b) k', .int .i64 0] ∧ N = [dI 48 4 3 (opD f a b) k'] := by
  refine CallT.enter Tryz.func71 rfl Tryz.ntmps71 rfl ?_
  have h4 : a.next.length * b.next.length ≤ 4096 * 4096 := Nat.mul_le_mul va.n4 vb.n4
  obtain ⟨L, hL⟩ : ∃ L, 2 ^ a.vars.toNat = L := ⟨_, rfl⟩
  have hw : L ≤ 64 := by rw [← hL]; exact va.width
  refine T.s (T.rg ?_)
  refine TO.l rfl (l_box (v := (dV a j)) (cs := (dC a j)) rfl rfl (fun z1 => ?_))
  refine TO.l rfl (l_box (v := (dV b k)) (cs := (dC b k)) rfl rfl (fun z2 => ?_))
  refine TO.l rfl (l_box (v := (.func (.func g) #[] #[])) (cs := [(.func (.func g) #[] #[])]) rfl rfl (fun z3 => ?_))
  refine TO.l rfl (l_alloc inf25 rfl (fun z4 => ?_))
  refine TO.l rfl (l_alloc inf30 rfl (fun z5 => ?_))
  refine TO.nl (T.s (T.rg ?_))
  refine TO.q (q_la 4 underlying25 rfl inf25 rfl rfl rfl) (TO.q (q_la 3 underlying25 rfl inf25 rfl rfl rfl) ?_)
  have hk16 := fun (w1 : World) (hI : Inv w [oI z5 30 [(.int .i64 0)], oI z4 25 [(.int .i64 0), (.int .i64 0), (.slice none 0 0), (.slice none 0 0)], oI z3 89 [(.func (.func g) #[] #[])], oI z2 25 (dC b k), oI z1 25 (dC a j)] w1) => (haveI := tbz hI; beginOk w1 a b j k (hI.atB ha) (hI.atB hb) va vb hv)
  refine TO.l rfl (l_call ent95 (CallT.op hk16) rfl ?_)
  clear hk16
  rintro vr O' ⟨N, rfl, bp, qb, m, rfl, rfl⟩
  refine TO.qm rfl (TO.q (q_extract (vs := _) rfl rfl) (TO.q (q_extract (vs := _) rfl rfl) ?_))
  refine TO.l rfl (l_alloc inf107 rfl (fun z6 => ?_))
  refine TO.l rfl (l_sb (v := (.pointer (some ⟨bp, 0, none⟩))) (vs := [(.pointer (some ⟨bp, 0, none⟩))]) 0 inf107 rfl rfl rfl rfl rfl rfl (by simp [putL]) ?_)
  refine TO.qa rfl ?_
  refine TO.nl (T.s (T.s (T.rg ?_)))
  refine TO.qm rfl (TO.q (q_neq rfl rfl) ?_)
  refine TO.nl ?_
  refine T.cond0 rfl ?_
  refine T.skip (T.s (T.rg ?_))
  refine TO.q (q_fa underlying25 rfl inf3 rfl rfl) (TO.q (q_lb 8 underlying3 rfl rfl rfl rfl) (TO.q (q_build (cs := [(.int .i64 a.vars), (.int .i64 0), (.slice none 0 0), (.slice none 0 0)]) plan25 inf25 (by kernel_rfl)) ?_))
  refine TO.l rfl (l_alloc inf25 rfl (fun z7 => ?_))
  refine TO.l rfl (l_sb (v := (.agg #[(.int .i64 a.vars), (.int .i64 0), (.slice none 0 0), (.slice none 0 0)])) (vs := [(.int .i64 a.vars), (.int .i64 0), (.slice none 0 0), (.slice none 0 0)]) 0 inf25 rfl rfl rfl rfl rfl rfl (by simp [putL]) ?_)
  refine TO.nl (T.s (T.s ?_))
  refine T.nilRow 4 1 ?_
  refine T.nilRow 48 1 ?_
  refine T.rg ?_
  refine TO.q (q_lb 3 underlying107 rfl rfl rfl rfl) ?_
  have hk27 := fun (w1 : World) (hI : Inv w [rowI none 0 48 1 (vals []), rowI none 0 4 1 (bools []), oI z7 25 [(.int .i64 a.vars), (.int .i64 0), (.slice none 0 0), (.slice none 0 0)], oI z6 107 [(.pointer (some ⟨bp, 0, none⟩))], oI bp 118 [(.int .i64 a.vars), (.int .i64 a.start), (.slice j.nb a.next.length j.nc), (.slice j.fb a.final.length j.fc), (.int .i64 b.vars), (.int .i64 b.start), (.slice k.nb b.next.length k.nc), (.slice k.fb b.final.length k.fc), (.slice (some ⟨qb, 0, none⟩) ([a.start.toNat * b.next.length + b.start.toNat].length) 1), (.map (some m))], rowI (some ⟨qb, 0, none⟩) 1 114 2 (prs b.next.length [a.start.toNat * b.next.length + b.start.toNat]), mapI pairV (fun n : Nat => Value.int .i64 (n : Int)) m (pmap b.next.length [a.start.toNat * b.next.length + b.start.toNat]), oI z5 30 [(.int .i64 0)], oI z4 25 [(.int .i64 0), (.int .i64 0), (.slice none 0 0), (.slice none 0 0)], oI z3 89 [(.func (.func g) #[] #[])], oI z2 25 (dC b k), oI z1 25 (dC a j)] w1) => (haveI := tbz hI; pairsF w1 bp)
  refine TO.l rfl (l_call ent96 (CallT.op hk27) rfl ?_)
  clear hk27
  rintro vr O' ⟨N, rfl, bP, rfl, rfl⟩
  refine TO.nl (T.block ?_)
  refine T.rangeFunc (first := []) (caps := [(.pointer (some ⟨bP, 0, none⟩))]) rfl ent109 (fun yl yq yhq => ?_)
  refine CallT.mono (CallT.sub (O' := oI bP 107 [(.pointer (some ⟨bp, 0, none⟩))] :: oI bp 118 [(.int .i64 a.vars), (.int .i64 a.start), (.slice j.nb a.next.length j.nc), (.slice j.fb a.final.length j.fc), (.int .i64 b.vars), (.int .i64 b.start), (.slice k.nb b.next.length k.nc), (.slice k.fb b.final.length k.fc), (.slice (some ⟨qb, 0, none⟩) ([a.start.toNat * b.next.length + b.start.toNat].length) 1), (.map (some m))] :: rowI (some ⟨qb, 0, none⟩) 1 114 2 (prs b.next.length [a.start.toNat * b.next.length + b.start.toNat]) :: mapI pairV (fun n : Nat => Value.int .i64 (n : Int)) m (pmap b.next.length [a.start.toNat * b.next.length + b.start.toNat]) :: (objI yl (lp yq none) :: [rowI none 0 48 1 (vals []), rowI none 0 4 1 (bools []), oI z7 25 [(.int .i64 a.vars), (.int .i64 0), (.slice none 0 0), (.slice none 0 0)], oI z6 107 [(.pointer (some ⟨bp, 0, none⟩))], oI z5 30 [(.int .i64 0)], oI z4 25 [(.int .i64 0), (.int .i64 0), (.slice none 0 0), (.slice none 0 0)], oI z3 89 [(.func (.func g) #[] #[])], oI z2 25 (dC b k), oI z1 25 (dC a j)])) (Sub.pick [1, 5, 5, 5, 0, 0, 0, 0, 0, 0, 0, 0, 0, 0] rfl) (pairs1 w f a b j k ha hb va vb hv L hL bP bp m (some ⟨qb, 0, none⟩) 1 (.func (.yield yl) #[] #[]) (fun i O => ∃ (nbm fbm : Option Addr) (ncm fcm n1 n2 : Nat) (qs : List Rec) (fs : List Bool), O = objI yl (lp yq none) :: ([rowI nbm ncm 48 1 (vals qs), rowI fbm fcm 4 1 (bools fs), oI z7 25 [(.int .i64 a.vars), (.int .i64 0), (.slice nbm n1 ncm), (.slice fbm n2 fcm)], oI z6 107 [(.pointer (some ⟨bp, 0, none⟩))], oI z5 30 [(.int .i64 0)], oI z4 25 [(.int .i64 0), (.int .i64 0), (.slice none 0 0), (.slice none 0 0)], oI z3 89 [(.func (.func g) #[] #[])], oI z2 25 (dC b k), oI z1 25 (dC a j)] ++ (itms 3 qs)) ∧ n1 = i ∧ n2 = i ∧ qs.length = i ∧ fs.length = i ∧ nums qs = ((order (prodD f a b)).take i).map (rnR (prodD f a b)) ∧ fs = ((order (prodD f a b)).take i).map (finN (prodD f a b))) (fun _ => False) ?_ _ ?_)) ?_
  · intro i o qb qc rb O hq hJ
    obtain ⟨nbm, fbm, ncm, fcm, n1, n2, qs, fs, rfl, hn1, hn2, hql, hfl, hqs, hfs⟩ := hJ
    refine CallV.yield yhq rfl rfl ?_
    refine T.sub (O' := ([rowI nbm ncm 48 1 (vals qs), rowI fbm fcm 4 1 (bools fs), oI z7 25 [(.int .i64 a.vars), (.int .i64 0), (.slice nbm n1 ncm), (.slice fbm n2 fcm)], oI z6 107 [(.pointer (some ⟨bp, 0, none⟩))], oI z5 30 [(.int .i64 0)], oI z4 25 [(.int .i64 0), (.int .i64 0), (.slice none 0 0), (.slice none 0 0)], oI z3 89 [(.func (.func g) #[] #[])], oI z2 25 (dC b k), oI z1 25 (dC a j), oI bp 118 [(.int .i64 a.vars), (.int .i64 a.start), (.slice j.nb a.next.length j.nc), (.slice j.fb a.final.length j.fc), (.int .i64 b.vars), (.int .i64 b.start), (.slice k.nb b.next.length k.nc), (.slice k.fb b.final.length k.fc), (.slice qb ((bfsN (prodD f a b) (i + 1)).length) qc), (.map (some m))], rowI qb qc 114 2 (prs b.next.length (bfsN (prodD f a b) (i + 1))), mapI pairV (fun n : Nat => Value.int .i64 (n : Int)) m (pmap b.next.length (bfsN (prodD f a b) (i + 1))), rowI (some ⟨rb, 0, none⟩) L 3 1 (ints (rnR (prodD f a b) o))] ++ itms 3 qs)) (by exact Sub.swap3 [rowI nbm ncm 48 1 (vals qs), rowI fbm fcm 4 1 (bools fs), oI z7 25 [(.int .i64 a.vars), (.int .i64 0), (.slice nbm n1 ncm), (.slice fbm n2 fcm)], oI z6 107 [(.pointer (some ⟨bp, 0, none⟩))], oI z5 30 [(.int .i64 0)], oI z4 25 [(.int .i64 0), (.int .i64 0), (.slice none 0 0), (.slice none 0 0)], oI z3 89 [(.func (.func g) #[] #[])], oI z2 25 (dC b k), oI z1 25 (dC a j)] [oI bp 118 [(.int .i64 a.vars), (.int .i64 a.start), (.slice j.nb a.next.length j.nc), (.slice j.fb a.final.length j.fc), (.int .i64 b.vars), (.int .i64 b.start), (.slice k.nb b.next.length k.nc), (.slice k.fb b.final.length k.fc), (.slice qb ((bfsN (prodD f a b) (i + 1)).length) qc), (.map (some m))], rowI qb qc 114 2 (prs b.next.length (bfsN (prodD f a b) (i + 1))), mapI pairV (fun n : Nat => Value.int .i64 (n : Int)) m (pmap b.next.length (bfsN (prodD f a b) (i + 1))), rowI (some ⟨rb, 0, none⟩) L 3 1 (ints (rnR (prodD f a b) o))] (itms 3 qs)) ?_
    have hbl := pr_bfs_len (f := f) va vb hv i
    have hil := (List.getElem?_eq_some_iff.1 hq).1
    have ho := (pr_bfs_ok (f := f) va vb hv i).2 o (List.mem_of_getElem? hq)
    obtain ⟨hs, ht⟩ := pr_split ho
    have hoa := bfs_at hq (by rw [prod_len]; omega)
    have hfa : (bools a.final)[o / b.next.length]? = some (.bool (finN a (o / b.next.length))) := by
      have hl : o / b.next.length < a.final.length := by rw [va.fin]; exact hs
      rw [bools_get hl]; unfold finN; rw [List.getD_eq_getElem?_getD, List.getElem?_eq_getElem hl]; rfl
    have hfb : (bools b.final)[o % b.next.length]? = some (.bool (finN b (o % b.next.length))) := by
      have hl : o % b.next.length < b.final.length := by rw [vb.fin]; exact ht
      rw [bools_get hl]; unfold finN; rw [List.getD_eq_getElem?_getD, List.getElem?_eq_getElem hl]; rfl
    have hrl : (rnR (prodD f a b) o).length = L := by unfold rnR; rw [List.length_map, renRow_length]; exact hL
    have hvq : vals (qs ++ [⟨some ⟨rb, 0, none⟩, L, rnR (prodD f a b) o⟩]) = vals qs ++ [.slice (some ⟨rb, 0, none⟩) L L] := by simp [Rec.val, hrl]
    have hbq : bools (fs ++ [f (finN a (o / b.next.length)) (finN b (o % b.next.length))]) = bools fs ++ [.bool (f (finN a (o / b.next.length)) (finN b (o % b.next.length)))] := by simp
    have hbl2 := pr_bfs_len (f := f) va vb hv (i + 1)
    have hlt9 : (bfsN (prodD f a b) (i + 1)).length ≤ 4096 := Nat.le_trans (bfsN_prefix (prodD f a b) (i + 1) (prodD f a b).next.length (by rw [prod_len]; omega)).length_le hN8
    refine T.s (T.rg ?_)
    refine TO.l rfl (l_alloc inf114 rfl (fun z8 => ?_))
    refine TO.l rfl (l_sb (v := (.agg #[.int .i64 ((o / b.next.length : Nat) : Int), .int .i64 ((o % b.next.length : Nat) : Int)])) (vs := [.int .i64 ((o / b.next.length : Nat) : Int), .int .i64 ((o % b.next.length : Nat) : Int)]) 0 inf114 rfl rfl rfl rfl rfl rfl (by simp [putL]) ?_)
    refine TO.nl (T.rg ?_)
    refine TO.qa rfl ?_
    refine TO.nl (T.block (T.s (T.s (T.rg ?_))))
    refine TO.q (q_lb 4 underlying107 rfl rfl rfl rfl) (TO.q (q_nilCheck rfl) (TO.q (q_fa underlying118 rfl inf115 rfl rfl) (TO.q (q_lb 10 underlying115 rfl rfl rfl rfl) ?_)))
    refine TO.q (q_len underlying115 rfl) (TO.q (QT.toB (q_gtr rfl rfl) (decide_eq_false (by omega))) ?_)
    refine TO.nl ?_
    refine T.cond0 rfl ?_
    refine T.skip ?_
    refine T.draws [oI z8 114 [.int .i64 ((o / b.next.length : Nat) : Int), .int .i64 ((o % b.next.length : Nat) : Int)], oI z7 25 [(.int .i64 a.vars), (.int .i64 0), (.slice nbm n1 ncm), (.slice fbm n2 fcm)], oI z6 107 [(.pointer (some ⟨bp, 0, none⟩))], oI z5 30 [(.int .i64 0)], oI z4 25 [(.int .i64 0), (.int .i64 0), (.slice none 0 0), (.slice none 0 0)], oI z3 89 [(.func (.func g) #[] #[])], oI z2 25 (dC b k), oI z1 25 (dC a j), oI bp 118 [(.int .i64 a.vars), (.int .i64 a.start), (.slice j.nb a.next.length j.nc), (.slice j.fb a.final.length j.fc), (.int .i64 b.vars), (.int .i64 b.start), (.slice k.nb b.next.length k.nc), (.slice k.fb b.final.length k.fc), (.slice qb ((bfsN (prodD f a b) (i + 1)).length) qc), (.map (some m))]] [(0, 0), (1, 0), (2, 0), (5, 0), (6, 0), (7, 0), (8, 0), (9, 0), (10, 0), (11, 0), (12, 0), (13, 0), (14, 0), (15, 0), (16, 0), (17, 0), (18, 0), (19, 0), (3, 1), (4, 1), (23, 0), (20, 1), (21, 1), (22, 1), (24, 2), (25, 2), (26, 2)] mixed (drawF_ok (by kernel_rfl)) (by exact Sub.k (.d (.d (.k (.k (.k (.k (.k (.k (.k (.k .z))))))))))) (fun _ _ _ h => h) ?_
    refine DO.q rfl (q_fa underlying25 rfl inf22 rfl rfl) (DO.q rfl (q_lb 1 underlying22 rfl rfl rfl rfl) (DO.q rfl (q_move rfl) (DO.q rfl (q_fa underlying25 rfl inf23 rfl rfl) ?_)))
    refine DO.q rfl (q_lb 1 underlying23 rfl rfl rfl rfl) (DO.q rfl (q_lb 5 underlying89 rfl rfl rfl rfl) (DO.q rfl (q_fa underlying25 rfl inf23 rfl rfl) (DO.q rfl (q_lb 7 underlying23 rfl rfl rfl rfl) ?_)))
    refine DO.q rfl (q_fa underlying114 rfl inf3 rfl rfl) (DO.q rfl (q_lb 0 underlying3 rfl rfl rfl rfl) (DO.q rfl (q_ix (i := (o / b.next.length)) underlying23 inf4 rfl rfl (Sl.o ha.final) (by rw [va.fin]; exact hs) (by rw [List.length_map, va.fin]; exact hs)) (DO.q rfl (q_ld underlying4 rfl rfl (Sl.o ha.final) hfa) ?_)))
    refine DO.q rfl (q_fa underlying25 rfl inf23 rfl rfl) (DO.q rfl (q_lb 6 underlying23 rfl rfl rfl rfl) (DO.q rfl (q_fa underlying114 rfl inf3 rfl rfl) (DO.q rfl (q_lb 0 underlying3 rfl rfl rfl rfl) ?_)))
    refine DO.q rfl (q_ix (i := (o % b.next.length)) underlying23 inf4 rfl rfl (Sl.o hb.final) (by rw [vb.fin]; exact ht) (by rw [List.length_map, vb.fin]; exact ht)) (DO.q rfl (q_ld underlying4 rfl rfl (Sl.o hb.final) hfb) ?_)
    refine DO.loud rfl rfl (l_build1 (v := (.slice (some ⟨rb, 0, none⟩) L L)) underlying22 inf48 rfl rfl rfl (fun z9 => ⟨by exact Sub.d (.k (.d (.d (.k (.k (.k (.k (.k (.k (.k (.k .z))))))))))), ?_⟩))
    refine DO.loud rfl rfl (l_append 2 underlying22 underlying22 inf48 rfl rfl rfl rfl (by simp; omega) (by decide) (Src.row (j := 0) rfl (by simp)) (by simp [oneB]) (by omega) (by decide) (by decide) (fun z10 zc11 => ⟨by exact Sub.d (.k (.d (.d (.k (.k (.k (.k (.k (.k (.k (.k .z))))))))))), ?_⟩))
    refine DO.q rfl (q_fa underlying25 rfl inf22 rfl rfl) ?_
    have hk57 := CallV.under (B := ([rowI (some ⟨z9, 0, none⟩) 1 48 1 [(.slice (some ⟨rb, 0, none⟩) L L)], oI z8 114 [.int .i64 ((o / b.next.length : Nat) : Int), .int .i64 ((o % b.next.length : Nat) : Int)], rowI z10 zc11 48 1 ((vals qs) ++ [(.slice (some ⟨rb, 0, none⟩) L L)]), rowI fbm fcm 4 1 (bools fs), oI z7 25 [(.int .i64 a.vars), (.int .i64 0), (.slice nbm n1 ncm), (.slice fbm n2 fcm)], oI z6 107 [(.pointer (some ⟨bp, 0, none⟩))], oI z5 30 [(.int .i64 0)], oI z4 25 [(.int .i64 0), (.int .i64 0), (.slice none 0 0), (.slice none 0 0)], oI z3 89 [(.func (.func g) #[] #[])], oI z2 25 (dC b k), oI z1 25 (dC a j), oI bp 118 [(.int .i64 a.vars), (.int .i64 a.start), (.slice j.nb a.next.length j.nc), (.slice j.fb a.final.length j.fc), (.int .i64 b.vars), (.int .i64 b.start), (.slice k.nb b.next.length k.nc), (.slice k.fb b.final.length k.fc), (.slice qb ((bfsN (prodD f a b) (i + 1)).length) qc), (.map (some m))], rowI qb qc 114 2 (prs b.next.length (bfsN (prodD f a b) (i + 1))), mapI pairV (fun n : Nat => Value.int .i64 (n : Int)) m (pmap b.next.length (bfsN (prodD f a b) (i + 1))), rowI (some ⟨rb, 0, none⟩) L 3 1 (ints (rnR (prodD f a b) o))] ++ itms 3 qs)) (O := ([rowI (some ⟨z9, 0, none⟩) 1 48 1 [(.slice (some ⟨rb, 0, none⟩) L L)], oI z8 114 [.int .i64 ((o / b.next.length : Nat) : Int), .int .i64 ((o % b.next.length : Nat) : Int)], rowI z10 zc11 48 1 ((vals qs) ++ [(.slice (some ⟨rb, 0, none⟩) L L)]), rowI fbm fcm 4 1 (bools fs), oI z7 25 [(.int .i64 a.vars), (.int .i64 0), (.slice nbm n1 ncm), (.slice fbm n2 fcm)], oI z6 107 [(.pointer (some ⟨bp, 0, none⟩))], oI z5 30 [(.int .i64 0)], oI z4 25 [(.int .i64 0), (.int .i64 0), (.slice none 0 0), (.slice none 0 0)], oI z3 89 [(.func (.func g) #[] #[])], oI z2 25 (dC b k), oI z1 25 (dC a j), oI bp 118 [(.int .i64 a.vars), (.int .i64 a.start), (.slice j.nb a.next.length j.nc), (.slice j.fb a.final.length j.fc), (.int .i64 b.vars), (.int .i64 b.start), (.slice k.nb b.next.length k.nc), (.slice k.fb b.final.length k.fc), (.slice qb ((bfsN (prodD f a b) (i + 1)).length) qc), (.map (some m))], rowI qb qc 114 2 (prs b.next.length (bfsN (prodD f a b) (i + 1))), mapI pairV (fun n : Nat => Value.int .i64 (n : Int)) m (pmap b.next.length (bfsN (prodD f a b) (i + 1))), rowI (some ⟨rb, 0, none⟩) L 3 1 (ints (rnR (prodD f a b) o))] ++ (itms 3 qs))) (hf w (finN a (o / b.next.length)) (finN b (o % b.next.length))) (by exact Sub.rf)
    refine DO.loud rfl rfl (l_callG hk57 rfl rfl ?_)
    clear hk57
    rintro vr O' ⟨A1, rfl, rfl, rfl⟩
    refine ⟨by exact Sub.d (.k (.d (.d (.k (.k (.k (.k (.k (.k (.k (.k .z))))))))))), ?_⟩
    refine DO.loud rfl rfl (l_build1 (v := .bool (f (finN a (o / b.next.length)) (finN b (o % b.next.length)))) underlying23 inf4 rfl rfl rfl (fun z12 => ⟨by exact Sub.d (.d (.k (.d (.d (.k (.k (.k (.k (.k (.k (.k (.k .z)))))))))))), ?_⟩))
    refine DO.loud rfl rfl (l_append 4 underlying23 underlying23 inf4 rfl rfl rfl rfl (by simp; omega) (by decide) (Src.row (j := 0) rfl (by simp)) (by simp [oneB]) (by omega) (by decide) (by decide) (fun z13 zc14 => ⟨by exact Sub.d (.d (.k (.d (.d (.k (.k (.k (.k (.k (.k (.k (.k .z)))))))))))), ?_⟩))
    refine DO.last rfl rfl (l_sb (v := (.slice z10 (n1 + 1) zc11)) (vs := [(.slice z10 (n1 + 1) zc11)]) 5 inf22 rfl rfl rfl rfl rfl rfl (by simp [putL]) ?_)
    refine DO.last rfl rfl (LT.oq rfl rfl (q_fa underlying25 rfl inf23 rfl rfl) ?_)
    refine DO.last rfl rfl (l_sb (v := (.slice z13 (n2 + 1) zc14)) (vs := [(.slice z13 (n2 + 1) zc14)]) 5 inf23 rfl rfl rfl rfl rfl rfl (by simp [putL]) ?_)
    refine DO.sub (O' := ([rowI z10 zc11 48 1 ((vals qs) ++ [(.slice (some ⟨rb, 0, none⟩) L L)]), rowI z13 zc14 4 1 ((bools fs) ++ [.bool (f (finN a (o / b.next.length)) (finN b (o % b.next.length)))]), oI z7 25 [(.int .i64 a.vars), (.int .i64 0), (.slice z10 (n1 + 1) zc11), (.slice z13 (n2 + 1) zc14)], oI z6 107 [(.pointer (some ⟨bp, 0, none⟩))], oI z5 30 [(.int .i64 0)], oI z4 25 [(.int .i64 0), (.int .i64 0), (.slice none 0 0), (.slice none 0 0)], oI z3 89 [(.func (.func g) #[] #[])], oI z2 25 (dC b k), oI z1 25 (dC a j), rowI (some ⟨rb, 0, none⟩) L 3 1 (ints (rnR (prodD f a b) o)), oI bp 118 [(.int .i64 a.vars), (.int .i64 a.start), (.slice j.nb a.next.length j.nc), (.slice j.fb a.final.length j.fc), (.int .i64 b.vars), (.int .i64 b.start), (.slice k.nb b.next.length k.nc), (.slice k.fb b.final.length k.fc), (.slice qb ((bfsN (prodD f a b) (i + 1)).length) qc), (.map (some m))], rowI qb qc 114 2 (prs b.next.length (bfsN (prodD f a b) (i + 1))), mapI pairV (fun n : Nat => Value.int .i64 (n : Int)) m (pmap b.next.length (bfsN (prodD f a b) (i + 1)))] ++ itms 3 qs)) (by exact Sub.d (.d (.d (.k (.k (.k (.k (.k (.k (.k (.k (.k (.pull [oI bp 118 [(.int .i64 a.vars), (.int .i64 a.start), (.slice j.nb a.next.length j.nc), (.slice j.fb a.final.length j.fc), (.int .i64 b.vars), (.int .i64 b.start), (.slice k.nb b.next.length k.nc), (.slice k.fb b.final.length k.fc), (.slice qb ((bfsN (prodD f a b) (i + 1)).length) qc), (.map (some m))], rowI qb qc 114 2 (prs b.next.length (bfsN (prodD f a b) (i + 1))), mapI pairV (fun n : Nat => Value.int .i64 (n : Int)) m (pmap b.next.length (bfsN (prodD f a b) (i + 1)))] _ (.k (.k (.k .rf)))))))))))))))) ?_
    refine DO.sub (O' := (([rowI z10 zc11 48 1 (vals (qs ++ [⟨some ⟨rb, 0, none⟩, L, rnR (prodD f a b) o⟩])), rowI z13 zc14 4 1 (bools (fs ++ [f (finN a (o / b.next.length)) (finN b (o % b.next.length))])), oI z7 25 [(.int .i64 a.vars), (.int .i64 0), (.slice z10 (n1 + 1) zc11), (.slice z13 (n2 + 1) zc14)], oI z6 107 [(.pointer (some ⟨bp, 0, none⟩))], oI z5 30 [(.int .i64 0)], oI z4 25 [(.int .i64 0), (.int .i64 0), (.slice none 0 0), (.slice none 0 0)], oI z3 89 [(.func (.func g) #[] #[])], oI z2 25 (dC b k), oI z1 25 (dC a j)] ++ itms 3 (qs ++ [⟨some ⟨rb, 0, none⟩, L, rnR (prodD f a b) o⟩])) ++ [oI bp 118 [(.int .i64 a.vars), (.int .i64 a.start), (.slice j.nb a.next.length j.nc), (.slice j.fb a.final.length j.fc), (.int .i64 b.vars), (.int .i64 b.start), (.slice k.nb b.next.length k.nc), (.slice k.fb b.final.length k.fc), (.slice qb ((bfsN (prodD f a b) (i + 1)).length) qc), (.map (some m))], rowI qb qc 114 2 (prs b.next.length (bfsN (prodD f a b) (i + 1))), mapI pairV (fun n : Nat => Value.int .i64 (n : Int)) m (pmap b.next.length (bfsN (prodD f a b) (i + 1)))])) (by rw [hvq, hbq]; exact Sub.fold [rowI z10 zc11 48 1 ((vals qs) ++ [(.slice (some ⟨rb, 0, none⟩) L L)]), rowI z13 zc14 4 1 ((bools fs) ++ [.bool (f (finN a (o / b.next.length)) (finN b (o % b.next.length)))]), oI z7 25 [(.int .i64 a.vars), (.int .i64 0), (.slice z10 (n1 + 1) zc11), (.slice z13 (n2 + 1) zc14)], oI z6 107 [(.pointer (some ⟨bp, 0, none⟩))], oI z5 30 [(.int .i64 0)], oI z4 25 [(.int .i64 0), (.int .i64 0), (.slice none 0 0), (.slice none 0 0)], oI z3 89 [(.func (.func g) #[] #[])], oI z2 25 (dC b k), oI z1 25 (dC a j)] (rowI (some ⟨rb, 0, none⟩) L 3 1 (ints (rnR (prodD f a b) o))) [oI bp 118 [(.int .i64 a.vars), (.int .i64 a.start), (.slice j.nb a.next.length j.nc), (.slice j.fb a.final.length j.fc), (.int .i64 b.vars), (.int .i64 b.start), (.slice k.nb b.next.length k.nc), (.slice k.fb b.final.length k.fc), (.slice qb ((bfsN (prodD f a b) (i + 1)).length) qc), (.map (some m))], rowI qb qc 114 2 (prs b.next.length (bfsN (prodD f a b) (i + 1))), mapI pairV (fun n : Nat => Value.int .i64 (n : Int)) m (pmap b.next.length (bfsN (prodD f a b) (i + 1)))] (itms 3 qs) _ (itms_snoc 3 qs ⟨some ⟨rb, 0, none⟩, L, rnR (prodD f a b) o⟩)) ?_
    refine DO.done ?_
    refine .inl ⟨rfl, _, rfl, z10, z13, zc11, zc14, n1 + 1, n2 + 1, qs ++ [⟨some ⟨rb, 0, none⟩, L, rnR (prodD f a b) o⟩], fs ++ [f (finN a (o / b.next.length)) (finN b (o % b.next.length))], rfl, by omega, by omega, by simp [hql], by simp [hfl], ?_, ?_⟩
    · rw [take_at hoa, List.map_append]
      show List.map Rec.xs (qs ++ [_]) = _
      rw [List.map_append, show List.map Rec.xs qs = _ from hqs]; rfl
    · rw [take_at hoa, List.map_append, hfs, ← pr_fin_at (f := f) ho]; rfl
  · refine ⟨none, none, 0, 0, 0, 0, [], [], rfl, rfl, rfl, rfl, rfl, by simp, by simp⟩
  rintro v O' (⟨N, qbF, qcF, O2, rfl, hN, nbm, fbm, ncm, fcm, n1, n2, qs, fs, rfl, hn1, hn2, hql, hfl, hqs, hfs⟩ | hF)
  rotate_left
  · exact hF.elim
  refine ⟨none, _, rfl, ?_⟩
  refine T.s ?_
  refine T.sub (O' := ([rowI nbm ncm 48 1 (vals qs), rowI fbm fcm 4 1 (bools fs), oI z7 25 [(.int .i64 a.vars), (.int .i64 0), (.slice nbm n1 ncm), (.slice fbm n2 fcm)], oI z6 107 [(.pointer (some ⟨bp, 0, none⟩))], oI z5 30 [(.int .i64 0)], oI z4 25 [(.int .i64 0), (.int .i64 0), (.slice none 0 0), (.slice none 0 0)], oI z3 89 [(.func (.func g) #[] #[])], oI z2 25 (dC b k), oI z1 25 (dC a j)] ++ itms 3 qs)) (Sub.of (List.sublist_append_left _ _)) ?_
  have hor := pr_stop va vb hv hN
  have hol : (order (prodD f a b)).length = N := by rw [hor]; exact hN
  have e1 : nums qs = (renum (prodD f a b)).next := by rw [hqs, ← hol, List.take_length]; exact (renum_rows _).symm
  have e2 : fs = (renum (prodD f a b)).final := by rw [hfs, ← hol, List.take_length]; rfl
  obtain rfl : n1 = (renum (prodD f a b)).next.length := by rw [renum_rows, List.length_map]; omega
  obtain rfl : n2 = (renum (prodD f a b)).final.length := by rw [renum_fins, List.length_map]; omega
  subst e2
  have vD := prod_val (f := f) va.toVal vb.toVal hv
  have vR := renum_fit vD hN8
  refine T.sub (O' := ([rowI nbm ncm 48 1 (vals qs), rowI fbm fcm 4 1 (bools (renum (prodD f a b)).final), oI z7 25 [(.int .i64 (renum (prodD f a b)).vars), (.int .i64 (renum (prodD f a b)).start), (.slice nbm ((renum (prodD f a b)).next.length) ncm), (.slice fbm ((renum (prodD f a b)).final.length) fcm)], oI z6 107 [(.pointer (some ⟨bp, 0, none⟩))], oI z5 30 [(.int .i64 0)], oI z4 25 [(.int .i64 0), (.int .i64 0), (.slice none 0 0), (.slice none 0 0)], oI z3 89 [(.func (.func g) #[] #[])], oI z2 25 (dC b k), oI z1 25 (dC a j)] ++ itms 3 qs)) (by exact Sub.rf) ?_
  refine T.rg ?_
  refine TO.q (q_la 2 underlying25 rfl inf25 rfl rfl rfl) ?_
  have hk63 := fun (w1 : World) (hI : Inv w ([rowI nbm ncm 48 1 (vals qs), rowI fbm fcm 4 1 (bools (renum (prodD f a b)).final), oI z7 25 [(.int .i64 (renum (prodD f a b)).vars), (.int .i64 (renum (prodD f a b)).start), (.slice nbm ((renum (prodD f a b)).next.length) ncm), (.slice fbm ((renum (prodD f a b)).final.length) fcm)], oI z6 107 [(.pointer (some ⟨bp, 0, none⟩))], oI z5 30 [(.int .i64 0)], oI z4 25 [(.int .i64 0), (.int .i64 0), (.slice none 0 0), (.slice none 0 0)], oI z3 89 [(.func (.func g) #[] #[])], oI z2 25 (dC b k), oI z1 25 (dC a j)] ++ (itms 3 qs)) w1) => (haveI := tbz hI; minKE w1 (renum (prodD f a b)) ⟨nbm, ncm, fbm, fcm, qs⟩ (show At w1 (renum (prodD f a b)) ⟨nbm, ncm, fbm, fcm, qs⟩ from ⟨hI.slOf (mG 0 rfl), e1 ▸ hI.recs (fun q hq => List.mem_append_right _ (List.mem_map_of_mem (f := Rec.itm 3) hq)), hI.slOf (mG 1 rfl)⟩) vR (by rw [renum_rows, List.length_map]; exact Nat.lt_of_le_of_lt hN8 (by decide)) (minD_renum vD))
  refine TO.l rfl (l_call ent39 (CallT.op hk63) rfl ?_)
  clear hk63
  rintro vr O' ⟨N9, rfl, k', rfl, rfl⟩
  refine TO.q (q_extract (vs := _) rfl rfl) (TO.q (q_extract (vs := _) rfl rfl) ?_)
  refine TO.l rfl (l_sb (v := (dV (minD (prodD f a b)) k')) (vs := (dC (minD (prodD f a b)) k')) 6 inf25 rfl rfl rfl rfl rfl rfl (by simp [putL]) ?_)
  refine TO.l rfl (l_sb (v := .int .i64 0) (vs := [(.int .i64 0)]) 5 inf30 rfl rfl rfl rfl rfl rfl (by simp [putL]) ?_)
  refine TO.nl (T.ret (Res.drop ?_))
  refine Res.cell2a (i := 6) (j := 5) Tryz.results71 underlying25 rfl inf25 underlying30 rfl rfl rfl rfl rfl rfl ?_
  exact ⟨[dI 48 4 3 (minD (prodD f a b)) k'], (by exact Sub.k .z), k', rfl, rfl⟩
end Go.Proofs.YtnpehjpookcfkaaGreatDoor


namespace Go.Lx
open Go.RowKit
set_option linter.unusedVariables false
theorem wrongD_self {d : DFA} : wrongD d d = checkD d := by
  unfold wrongD
  by_cases h : checkD d = 0 <;> simp [h]
def InclA (a b : DFA) (r : Option (List Nat)) : Prop := if wrongD a b = 0 then LeastA (opD minusB a b) r else r = none
theorem InclA.unique {a b : DFA} (hn : wrongD a b = 0 → a.next.length * b.next.length ≤ 4096) {r s : Option (List Nat)} (h : InclA a b r) (h2 : InclA a b s) : r = s := by
  unfold InclA at h h2
  by_cases hw : wrongD a b = 0
  · rw [if_pos hw] at h h2
    obtain ⟨va, vb, hv⟩ := wrongD_zero.1 hw
    exact h.unique (opD_valid va vb hv (hn hw)) h2
  · rw [if_neg hw] at h h2; rw [h, h2]
theorem InclA.ok {a b : DFA} (hw : wrongD a b = 0) {r : Option (List Nat)} : InclA a b r ↔ LeastA (opD minusB a b) r := by unfold InclA; rw [if_pos hw]
def AllOk : DFA → List DFA → Prop
  | _, [] => True
  | d, x :: l => wrongD d x = 0 → d.next.length * x.next.length ≤ 64 ∧ AllOk (opD andB d x) l
theorem AllOk.at {d : DFA} {l : List DFA} {i : Nat} (h : i < l.length) (ha : AllOk d (l.drop i)) (hw : wrongD d l[i] = 0) : d.next.length * l[i].next.length ≤ 64 ∧ AllOk (opD andB d l[i]) (l.drop (i + 1)) := by
  rw [List.drop_eq_getElem_cons h] at ha
  exact ha hw
abbrev k00 : DK := ⟨none, 0, none, 0, []⟩
theorem T.nilD {P : Program} {r : Option Nat} {base : World} {n : Nat} {c : Code} {Q : Post} {ρ : Env} {O : List Item} (II Bo I : TypeId) (h : T P r base n c Q ρ (dI II Bo I noD k00 :: O)) : T P r base n c Q ρ O :=
  T.nilRow Bo 1 (T.nilRow II 1 (T.pack (φ := nums k00.qs = noD.next) (L := [rowI none 0 II 1 [], rowI none 0 Bo 1 []] ++ []) (M := O) rfl h))
theorem CallT.nilD {P : Program} {base : World} {f : FuncId} {args : List Value} {O : List Item} {R : Value → List Item → Prop} (II Bo I : TypeId) (h : CallT P base f args O R) : CallT P base f args O (fun v O' => ∃ O2, O' = dI II Bo I noD k00 :: O2 ∧ R v O2) :=
  (CallT.addNil II 1 (CallT.addNil Bo 1 h)).packR fun v O' hR => by
    obtain ⟨O2, rfl, O3, rfl, h3⟩ := hR
    exact ⟨nums k00.qs = noD.next, [rowI Option.none 0 II 1 [], rowI Option.none 0 Bo 1 []] ++ [], O3, rfl, rfl, O3, rfl, h3⟩
theorem Sub.foldN (A : List Item) (x : Item) (S S' : List Item) (h : S' = S ++ [x]) : Sub (A ++ S') ((A ++ [x]) ++ S) := by
  have := Sub.fold A x [] S S' h
  rwa [List.append_nil] at this
end Go.Lx


namespace Go.Proofs.YtnpehjpookcfkaaGreatDoor
open Go.Lx Go.RowKit _root_.Go.Proofs.Tryz
set_option linter.unusedVariables false
set_option linter.unusedSimpArgs false
set_option maxRecDepth 20000 in
theorem combineA (w : World) [Tab Tryz.prog w] (a b : DFA) (j k : DK) (ha : At w a j) (hb : At w b k) (haa : a.next.length < 9223372036854775807) (haar : ∀ r ∈ a.next, r.length < 9223372036854775807) (haaf : a.final.length < 9223372036854775807) (hbb : b.next.length < 9223372036854775807) (hbbr : ∀ r ∈ b.next, r.length < 9223372036854775807) (hbbf : b.final.length < 9223372036854775807) (f : Bool → Bool → Bool) (g : Nat) (hf : ∀ (base : World) (x y : Bool), CallV Tryz.prog base (.func (.func g) #[] #[]) [.bool x, .bool y] [] (fun v O' => v = .bool (f x y) ∧ O' = [])) (hN : wrongD a b = 0 → (order (prodD f a b)).length ≤ 4096) :
    PureT Tryz.prog 71 [dV a j, dV b k, .func (.func g) #[] #[]] w fun v N => ∃ k' : DK, v = .tuple #[dV (opV f a b) k', .int .i64 (wrongD a b : Int)] ∧ N = [dI 48 4 3 (opV f a b) k'] := by
  by_cases he : wrongD a b = 0
  · obtain ⟨va, vb, hv⟩ := wrongD_zero.1 he
    rw [opV_ok he, he]
    exact combineW w a b j k ha hb va vb hv f g hf (hN he)
  · rw [opV_bad he]
    refine CallT.dk (g := fun x => .tuple #[x, .int .i64 (wrongD a b : Int)]) ((CallT.addNil 48 1 (CallT.addNil 4 1 (combineBad w a b j k ha hb haa haar haaf hbb hbbr hbbf g he))).mono ?_)
    rintro v N ⟨O2, rfl, O3, rfl, rfl, rfl⟩
    exact ⟨none, 0, none, 0, [], rfl, rfl, rfl⟩
theorem notC0 (w : World) [Tab Tryz.prog w] (a : DFA) (j : DK) (ha : At w a j) (haa : a.next.length < 9223372036854775807) (haar : ∀ r ∈ a.next, r.length < 9223372036854775807) (haaf : a.final.length < 9223372036854775807) (hN : wrongD a a = 0 → (order (prodD notB a a)).length ≤ 4096) :
    PureT Tryz.prog 84 [dV a j] w fun v N => ∃ k' : DK, v = .tuple #[dV (opV notB a a) k', .int .i64 (wrongD a a : Int)] ∧ N = [dI 48 4 3 (opV notB a a) k'] := by
  refine CallT.enter Tryz.func84 rfl Tryz.ntmps84 rfl ?_
  refine T.s (T.rg ?_)
  refine TO.l rfl (l_box (v := (dV a j)) (cs := (dC a j)) rfl rfl (fun bx1 => ?_))
  refine TO.l rfl (l_alloc inf25 rfl (fun bx2 => ?_))
  refine TO.qa rfl ?_
  refine TO.nl (T.s (T.rg ?_))
  refine TO.q (q_la 1 underlying25 rfl inf25 rfl rfl rfl) (TO.q (q_la 1 underlying25 rfl inf25 rfl rfl rfl) ?_)
  have hk6 := fun (w1 : World) (hI : Inv w [oI bx2 25 [(.int .i64 0), (.int .i64 0), (.slice none 0 0), (.slice none 0 0)], oI bx1 25 (dC a j)] w1) => (haveI := tbz hI; combineA w1 a a j j (hI.atB ha) (hI.atB ha) haa haar haaf haa haar haaf notB 101 notFV hN)
  refine TO.l rfl (l_call ent71 (CallT.op hk6) rfl ?_)
  clear hk6
  rintro vr O' ⟨N, rfl, k', rfl, rfl⟩
  refine TO.q (q_extract (vs := _) rfl rfl) (TO.q (q_extract (vs := _) rfl rfl) ?_)
  refine TO.l rfl (l_sb (v := (dV (opV notB a a) k')) (vs := (dC (opV notB a a) k')) 1 inf25 rfl rfl rfl rfl rfl rfl (by simp [putL]) ?_)
  refine TO.qa rfl ?_
  refine TO.nl (T.ret (Res.drop ?_))
  refine Res.cell1b (.int .i64 (wrongD a a : Int)) (i := 1) Tryz.results84 underlying25 rfl inf25 rfl rfl rfl rfl ?_
  exact ⟨[dI 48 4 3 (opV notB a a) k'], (by exact Sub.k .z), k', rfl, rfl⟩
theorem notC (w : World) [Tab Tryz.prog w] (a : DFA) (j : DK) (ha : At w a j) (haa : a.next.length < 9223372036854775807) (haar : ∀ r ∈ a.next, r.length < 9223372036854775807) (haaf : a.final.length < 9223372036854775807) :
    PureT Tryz.prog 84 [dV a j] w fun v N => ∃ k' : DK, v = .tuple #[dV (opV notB a a) k', .int .i64 (checkD a : Int)] ∧ N = [dI 48 4 3 (opV notB a a) k'] := by
  have h := notC0 w a j ha haa haar haaf (fun hw => by
    have hv := (wrongD_zero.1 hw).1
    exact Nat.le_trans (pr_order_factW hv.toVal hv.toVal rfl hv.toVal rfl (Det.refl a) (Det.refl a)) hv.n4)
  rwa [wrongD_self] at h
theorem andC (w : World) [Tab Tryz.prog w] (a b : DFA) (j k : DK) (ha : At w a j) (hb : At w b k) (haa : a.next.length < 9223372036854775807) (haar : ∀ r ∈ a.next, r.length < 9223372036854775807) (haaf : a.final.length < 9223372036854775807) (hbb : b.next.length < 9223372036854775807) (hbbr : ∀ r ∈ b.next, r.length < 9223372036854775807) (hbbf : b.final.length < 9223372036854775807) (hN : wrongD a b = 0 → (order (prodD andB a b)).length ≤ 4096) :
    PureT Tryz.prog 43 [dV a j, dV b k] w fun v N => ∃ k' : DK, v = .tuple #[dV (opV andB a b) k', .int .i64 (wrongD a b : Int)] ∧ N = [dI 48 4 3 (opV andB a b) k'] := by
  refine CallT.enter Tryz.func43 rfl Tryz.ntmps43 rfl ?_
  refine T.s (T.rg ?_)
  refine TO.l rfl (l_box (v := (dV a j)) (cs := (dC a j)) rfl rfl (fun bx1 => ?_))
  refine TO.l rfl (l_box (v := (dV b k)) (cs := (dC b k)) rfl rfl (fun bx2 => ?_))
  refine TO.l rfl (l_alloc inf25 rfl (fun bx3 => ?_))
  refine TO.qa rfl ?_
  refine TO.nl (T.s (T.rg ?_))
  refine TO.q (q_la 2 underlying25 rfl inf25 rfl rfl rfl) (TO.q (q_la 1 underlying25 rfl inf25 rfl rfl rfl) ?_)
  have hk8 := fun (w1 : World) (hI : Inv w [oI bx3 25 [(.int .i64 0), (.int .i64 0), (.slice none 0 0), (.slice none 0 0)], oI bx2 25 (dC b k), oI bx1 25 (dC a j)] w1) => (haveI := tbz hI; combineA w1 a b j k (hI.atB ha) (hI.atB hb) haa haar haaf hbb hbbr hbbf andB 72 andFV hN)
  refine TO.l rfl (l_call ent71 (CallT.op hk8) rfl ?_)
  clear hk8
  rintro vr O' ⟨N, rfl, k', rfl, rfl⟩
  refine TO.q (q_extract (vs := _) rfl rfl) (TO.q (q_extract (vs := _) rfl rfl) ?_)
  refine TO.l rfl (l_sb (v := (dV (opV andB a b) k')) (vs := (dC (opV andB a b) k')) 1 inf25 rfl rfl rfl rfl rfl rfl (by simp [putL]) ?_)
  refine TO.qa rfl ?_
  refine TO.nl (T.ret (Res.drop ?_))
  refine Res.cell1b (.int .i64 (wrongD a b : Int)) (i := 1) Tryz.results43 underlying25 rfl inf25 rfl rfl rfl rfl ?_
  exact ⟨[dI 48 4 3 (opV andB a b) k'], (by exact Sub.k .z), k', rfl, rfl⟩
theorem orC (w : World) [Tab Tryz.prog w] (a b : DFA) (j k : DK) (ha : At w a j) (hb : At w b k) (haa : a.next.length < 9223372036854775807) (haar : ∀ r ∈ a.next, r.length < 9223372036854775807) (haaf : a.final.length < 9223372036854775807) (hbb : b.next.length < 9223372036854775807) (hbbr : ∀ r ∈ b.next, r.length < 9223372036854775807) (hbbf : b.final.length < 9223372036854775807) (hN : wrongD a b = 0 → (order (prodD orB a b)).length ≤ 4096) :
    PureT Tryz.prog 54 [dV a j, dV b k] w fun v N => ∃ k' : DK, v = .tuple #[dV (opV orB a b) k', .int .i64 (wrongD a b : Int)] ∧ N = [dI 48 4 3 (opV orB a b) k'] := by
  refine CallT.enter Tryz.func54 rfl Tryz.ntmps54 rfl ?_
  refine T.s (T.rg ?_)
  refine TO.l rfl (l_box (v := (dV a j)) (cs := (dC a j)) rfl rfl (fun bx1 => ?_))
  refine TO.l rfl (l_box (v := (dV b k)) (cs := (dC b k)) rfl rfl (fun bx2 => ?_))
  refine TO.l rfl (l_alloc inf25 rfl (fun bx3 => ?_))
  refine TO.qa rfl ?_
  refine TO.nl (T.s (T.rg ?_))
  refine TO.q (q_la 2 underlying25 rfl inf25 rfl rfl rfl) (TO.q (q_la 1 underlying25 rfl inf25 rfl rfl rfl) ?_)
  have hk8 := fun (w1 : World) (hI : Inv w [oI bx3 25 [(.int .i64 0), (.int .i64 0), (.slice none 0 0), (.slice none 0 0)], oI bx2 25 (dC b k), oI bx1 25 (dC a j)] w1) => (haveI := tbz hI; combineA w1 a b j k (hI.atB ha) (hI.atB hb) haa haar haaf hbb hbbr hbbf orB 82 orFV hN)
  refine TO.l rfl (l_call ent71 (CallT.op hk8) rfl ?_)
  clear hk8
  rintro vr O' ⟨N, rfl, k', rfl, rfl⟩
  refine TO.q (q_extract (vs := _) rfl rfl) (TO.q (q_extract (vs := _) rfl rfl) ?_)
  refine TO.l rfl (l_sb (v := (dV (opV orB a b) k')) (vs := (dC (opV orB a b) k')) 1 inf25 rfl rfl rfl rfl rfl rfl (by simp [putL]) ?_)
  refine TO.qa rfl ?_
  refine TO.nl (T.ret (Res.drop ?_))
  refine Res.cell1b (.int .i64 (wrongD a b : Int)) (i := 1) Tryz.results54 underlying25 rfl inf25 rfl rfl rfl rfl ?_
  exact ⟨[dI 48 4 3 (opV orB a b) k'], (by exact Sub.k .z), k', rfl, rfl⟩
theorem minusC (w : World) [Tab Tryz.prog w] (a b : DFA) (j k : DK) (ha : At w a j) (hb : At w b k) (haa : a.next.length < 9223372036854775807) (haar : ∀ r ∈ a.next, r.length < 9223372036854775807) (haaf : a.final.length < 9223372036854775807) (hbb : b.next.length < 9223372036854775807) (hbbr : ∀ r ∈ b.next, r.length < 9223372036854775807) (hbbf : b.final.length < 9223372036854775807) (hN : wrongD a b = 0 → (order (prodD minusB a b)).length ≤ 4096) :
    PureT Tryz.prog 45 [dV a j, dV b k] w fun v N => ∃ k' : DK, v = .tuple #[dV (opV minusB a b) k', .int .i64 (wrongD a b : Int)] ∧ N = [dI 48 4 3 (opV minusB a b) k'] := by
  refine CallT.enter Tryz.func45 rfl Tryz.ntmps45 rfl ?_
  refine T.s (T.rg ?_)
  refine TO.l rfl (l_box (v := (dV a j)) (cs := (dC a j)) rfl rfl (fun bx1 => ?_))
  refine TO.l rfl (l_box (v := (dV b k)) (cs := (dC b k)) rfl rfl (fun bx2 => ?_))
  refine TO.l rfl (l_alloc inf25 rfl (fun bx3 => ?_))
  refine TO.qa rfl ?_
  refine TO.nl (T.s (T.rg ?_))
  refine TO.q (q_la 2 underlying25 rfl inf25 rfl rfl rfl) (TO.q (q_la 1 underlying25 rfl inf25 rfl rfl rfl) ?_)
  have hk8 := fun (w1 : World) (hI : Inv w [oI bx3 25 [(.int .i64 0), (.int .i64 0), (.slice none 0 0), (.slice none 0 0)], oI bx2 25 (dC b k), oI bx1 25 (dC a j)] w1) => (haveI := tbz hI; combineA w1 a b j k (hI.atB ha) (hI.atB hb) haa haar haaf hbb hbbr hbbf minusB 74 minusFV hN)
  refine TO.l rfl (l_call ent71 (CallT.op hk8) rfl ?_)
  clear hk8
  rintro vr O' ⟨N, rfl, k', rfl, rfl⟩
  refine TO.q (q_extract (vs := _) rfl rfl) (TO.q (q_extract (vs := _) rfl rfl) ?_)
  refine TO.l rfl (l_sb (v := (dV (opV minusB a b) k')) (vs := (dC (opV minusB a b) k')) 1 inf25 rfl rfl rfl rfl rfl rfl (by simp [putL]) ?_)
  refine TO.qa rfl ?_
  refine TO.nl (T.ret (Res.drop ?_))
  refine Res.cell1b (.int .i64 (wrongD a b : Int)) (i := 1) Tryz.results45 underlying25 rfl inf25 rfl rfl rfl rfl ?_
  exact ⟨[dI 48 4 3 (opV minusB a b) k'], (by exact Sub.k .z), k', rfl, rfl⟩
end Go.Proofs.YtnpehjpookcfkaaGreatDoor


namespace Go.Proofs.YtnpehjpookcfkaaGreatDoor
open Go.Lx Go.RowKit _root_.Go.Proofs.Tryz
set_option linter.unusedVariables false
set_option linter.unusedSimpArgs false
end Go.Proofs.YtnpehjpookcfkaaGreatDoor


namespace Go.Lx
open Go.RowKit
set_option linter.unusedVariables false
theorem bq_diag {d : DFA} (hv : Val d) {s : Nat} : ∀ i, (∀ j, j < i → j < (bq d s s j).length) → BfsI d s s i (bq d s s i)
  | 0, _ => BfsI.zero d s s
  | i + 1, h => (bq_diag hv i fun j hj => h j (by omega)).step hv (List.getElem?_eq_getElem (h i (by omega)))
theorem BfsI.diag {d : DFA} {s i : Nat} {A : List Stp} (h : BfsI d s s i A) {q : Stp} (hq : q ∈ A) : q.1 = (q.1.1, q.1.1) := by rw [(h.run q hq).2]
abbrev shq (d : DFA) (i : Nat) : List Stp := bq d d.start.toNat d.start.toNat i
def ShR (d : DFA) (res : Option (List Nat)) : Prop :=
  ∃ i, (∀ j, j < i → ∃ q, (shq d j)[j]? = some q ∧ finN d q.1.1 = false) ∧
    match res with
    | some w => ∃ q, (shq d i)[i]? = some q ∧ finN d q.1.1 = true ∧ q.2 = w
    | none => (shq d i).length ≤ i
theorem shq_inv {d : DFA} (hv : Val d) {i : Nat} (h : ∀ j, j < i → ∃ q, (shq d j)[j]? = some q ∧ finN d q.1.1 = false) : BfsI d d.start.toNat d.start.toNat i (shq d i) :=
  bq_diag hv i fun j hj => by obtain ⟨q, hq, _⟩ := h j hj; exact (List.getElem?_eq_some_iff.1 hq).1
theorem ShR.least {d : DFA} (hv : Val d) {res : Option (List Nat)} (h : ShR d res) : LeastA d res := by
  obtain ⟨i, hj, hr⟩ := h
  have hI := shq_inv hv hj
  have hsame : ∀ j q, j < i → (shq d i)[j]? = some q → finN d q.1.1 = false := fun j q hji hq => by
    obtain ⟨q', h1, h2⟩ := hj j hji
    have := bq_get (i := i) h1 (by omega)
    rw [hq] at this; cases this; exact h2
  have key : ∀ u, Wd d u → (∃ q ∈ shq d i, q.1 = (runN d d.start.toNat u, runN d d.start.toNat u) ∧ code q.2 ≤ code u) ∨ ∃ q, (shq d i)[i]? = some q ∧ code q.2 ≤ code u := by
    refine snocInd ?_ ?_
    · intro _
      obtain ⟨q, h1, h2, h3⟩ := hI.first
      exact .inl ⟨q, List.mem_of_getElem? h1, h2, by rw [h3]; exact Nat.le_refl _⟩
    · intro u x ih hw
      rw [code_snoc]
      rcases ih (fun z hz => hw z (by simp [hz])) with ⟨q, h1, h2, h3⟩ | ⟨q, h1, h3⟩
      · obtain ⟨j, hjq⟩ := List.getElem?_of_mem h1
        by_cases hji : j < i
        · obtain ⟨q', g1, g2, g3⟩ := hI.suc j q hji hjq x (hw x (by simp))
          refine .inl ⟨q', g1, ?_, by omega⟩
          rw [g2, runN_snoc, h2]; rfl
        · by_cases e : j = i
          · subst e; exact .inr ⟨q, hjq, by omega⟩
          · have hil : i < (shq d i).length := by have := (List.getElem?_eq_some_iff.1 hjq).1; omega
            have := hI.mono i j _ q (by omega) (List.getElem?_eq_getElem hil) hjq
            exact .inr ⟨_, List.getElem?_eq_getElem hil, by omega⟩
      · exact .inr ⟨q, h1, by omega⟩
  cases res with
  | some w =>
    obtain ⟨q, hq, hf, rfl⟩ := hr
    obtain ⟨h1, h2⟩ := hI.run q (List.mem_of_getElem? hq)
    refine ⟨h1, ?_, ?_⟩
    · unfold acc; rw [h2] at hf; exact hf
    · intro u hu hd
      rcases key u hu with ⟨p, g1, g2, g3⟩ | ⟨p, g1, g3⟩
      · obtain ⟨j, hjp⟩ := List.getElem?_of_mem g1
        by_cases hji : j < i
        · have := hsame j p hji hjp
          rw [g2] at this
          have hd' : finN d (runN d d.start.toNat u) = true := hd
          rw [hd'] at this; cases this
        · by_cases e : j = i
          · subst e; rw [hq] at hjp; cases hjp; exact g3
          · have := hI.mono i j q p (by omega) hq hjp
            omega
      · rw [hq] at g1; cases g1; exact g3
  | none =>
    intro u hu
    have hlen : (shq d i).length ≤ i := hr
    rcases key u hu with ⟨p, g1, g2, g3⟩ | ⟨p, g1, g3⟩
    · obtain ⟨j, hjp⟩ := List.getElem?_of_mem g1
      have hji := (List.getElem?_eq_some_iff.1 hjp).1
      have := hsame j p (by omega) hjp
      rw [g2] at this; exact this
    · have := (List.getElem?_eq_some_iff.1 g1).1; omega
theorem BfsI.states {d : DFA} (hv : Val d) {s i : Nat} (hs : s < d.next.length) {A : List Stp} (h : BfsI d s s i A) : (A.map (·.1.1)).Nodup ∧ ∀ q ∈ A, q.1.1 < d.next.length := by
  refine ⟨?_, fun q hq => ?_⟩
  · have hn := h.nd
    rw [List.nodup_iff_pairwise_ne, List.pairwise_map] at hn ⊢
    exact hn.imp_of_mem fun ha hb hne e => hne (by rw [h.diag ha, h.diag hb, e])
  · obtain ⟨h1, h2⟩ := h.run q hq
    rw [h2]; exact runN_lt hv hs q.2 h1
theorem BfsI.size {d : DFA} (hv : Val d) {s i : Nat} (hs : s < d.next.length) {A : List Stp} (h : BfsI d s s i A) : A.length ≤ d.next.length := by
  obtain ⟨h1, h2⟩ := h.states hv hs
  have := nodup_bound (n := d.next.length) h1 fun x hx => by
    obtain ⟨q, hq, rfl⟩ := List.mem_map.1 hx
    exact h2 q hq
  simpa using this
def Ds (d : DFA) (s k : Nat) : Prop := (∃ u, Wd d u ∧ u.length = k ∧ finN d (runN d s u) = true) ∧ ∀ u, Wd d u → finN d (runN d s u) = true → k ≤ u.length
theorem Ds.unique {d : DFA} {s k m : Nat} (h : Ds d s k) (h2 : Ds d s m) : k = m := by
  obtain ⟨u, hu, e, hf⟩ := h.1
  obtain ⟨x, hx, e2, hf2⟩ := h2.1
  have a := h.2 x hx hf2
  have b := h2.2 u hu hf
  omega
theorem Ds.some {d : DFA} {s : Nat} : ∀ (m : Nat) (u : List Nat), Wd d u → finN d (runN d s u) = true → u.length ≤ m → ∃ k, k ≤ u.length ∧ Ds d s k
  | 0, u, hu, hf, h0 => ⟨0, by omega, ⟨u, hu, by omega, hf⟩, fun _ _ _ => Nat.zero_le _⟩
  | m + 1, u, hu, hf, hl => by
    by_cases h : ∃ x, Wd d x ∧ finN d (runN d s x) = true ∧ x.length < u.length
    · obtain ⟨x, hx, hxf, hxl⟩ := h
      obtain ⟨k, hk, hD⟩ := Ds.some m x hx hxf (by omega)
      exact ⟨k, by omega, hD⟩
    · exact ⟨u.length, Nat.le_refl _, ⟨u, hu, rfl, hf⟩, fun x hx hxf => by
        refine Classical.byContradiction fun hlt => h ⟨x, hx, hxf, by omega⟩⟩
theorem Wd.cons {d : DFA} {x : Nat} {u : List Nat} : Wd d (x :: u) ↔ x < letN d ∧ Wd d u := by unfold Wd; simp
theorem Ds.down {d : DFA} {s k : Nat} (h : Ds d s (k + 1)) : ∃ x, x < letN d ∧ Ds d (toN d s x) k := by
  obtain ⟨u, hu, e, hf⟩ := h.1
  cases u with
  | nil => simp at e
  | cons x u =>
    obtain ⟨hx, hu⟩ := Wd.cons.1 hu
    refine ⟨x, hx, ⟨u, hu, by simpa using e, hf⟩, fun y hy hyf => ?_⟩
    have := h.2 (x :: y) (Wd.cons.2 ⟨hx, hy⟩) hyf
    simpa using this
theorem Ds.up {d : DFA} {s k x : Nat} (hx : x < letN d) (h : Ds d (toN d s x) k) (hn : ∀ m, m ≤ k → ¬ Ds d s m) : Ds d s (k + 1) := by
  obtain ⟨u, hu, e, hf⟩ := h.1
  refine ⟨⟨x :: u, Wd.cons.2 ⟨hx, hu⟩, by simp [e], hf⟩, fun y hy hyf => ?_⟩
  obtain ⟨m, hm, hD⟩ := Ds.some y.length y hy hyf (Nat.le_refl _)
  refine Classical.byContradiction fun hlt => hn m (by omega) hD
theorem Ds.lt {d : DFA} (hv : Val d) {s k : Nat} (hs : s < d.next.length) (h : Ds d s k) : k < d.next.length := by
  obtain ⟨u, hu, e, hf⟩ := h.1
  have htk : ∀ i, Wd d (u.take i) := fun i x hx => hu x (List.mem_of_mem_take hx)
  have hinj : ∀ i j, i < j → j ≤ k → runN d s (u.take i) ≠ runN d s (u.take j) := fun i j hij hjk hr => by
    have h1 : runN d s (u.take i ++ u.drop j) = runN d s u := by
      rw [runN_append, hr, ← runN_append, List.take_append_drop]
    have := h.2 (u.take i ++ u.drop j) (fun x hx => (List.mem_append.1 hx).elim (htk i x) fun h => hu x (List.mem_of_mem_drop h)) (by rw [h1]; exact hf)
    rw [List.length_append, List.length_take, List.length_drop] at this
    omega
  have hn : ((List.range (k + 1)).map fun i => runN d s (u.take i)).Nodup := map_nodup List.nodup_range fun a ha b hb e => by
    rw [List.mem_range] at ha hb
    rcases Nat.lt_trichotomy a b with h1 | h1 | h1
    · exact absurd e (hinj a b h1 (by omega))
    · exact h1
    · exact absurd e.symm (hinj b a h1 (by omega))
  have := nodup_bound (n := d.next.length) hn fun x hx => by
    obtain ⟨i, _, rfl⟩ := List.mem_map.1 hx
    exact runN_lt hv hs _ (htk i)
  simp at this; omega
def lnN (d : DFA) : Nat → Nat → Int
  | 0, s => if finN d s = true then 0 else -1
  | n + 1, s => if lnN d n s < 0 ∧ ((List.range (letN d)).any fun x => decide (lnN d n (toN d s x) = (n : Int))) = true then ((n + 1 : Nat) : Int) else lnN d n s
theorem lnN_spec {d : DFA} : ∀ n s, (∃ k, k ≤ n ∧ Ds d s k ∧ lnN d n s = (k : Int)) ∨ ((∀ k, k ≤ n → ¬ Ds d s k) ∧ lnN d n s = -1)
  | 0, s => by
    by_cases hf : finN d s = true
    · exact .inl ⟨0, Nat.le_refl _, ⟨⟨[], fun x hx => (by cases hx), rfl, hf⟩, fun _ _ _ => Nat.zero_le _⟩, by simp [lnN, hf]⟩
    · refine .inr ⟨fun k hk hD => hf ?_, by simp [lnN, hf]⟩
      obtain ⟨u, hu, e, hf⟩ := hD.1
      have : u = [] := List.eq_nil_of_length_eq_zero (by omega)
      subst this; exact hf
  | n + 1, s => by
    rcases lnN_spec (d := d) n s with ⟨k, hk, hD, e⟩ | ⟨hno, e⟩
    · refine .inl ⟨k, by omega, hD, ?_⟩
      rw [lnN, if_neg (by rw [e]; omega), e]
    · by_cases h : ((List.range (letN d)).any fun x => decide (lnN d n (toN d s x) = (n : Int))) = true
      · refine .inl ⟨n + 1, Nat.le_refl _, ?_, by rw [lnN, if_pos ⟨by rw [e]; omega, h⟩]⟩
        obtain ⟨x, hx, hxe⟩ := List.any_eq_true.1 h
        rw [List.mem_range] at hx
        have hxe := of_decide_eq_true hxe
        rcases lnN_spec (d := d) n (toN d s x) with ⟨k, hk, hD, e2⟩ | ⟨_, e2⟩
        · have : k = n := by rw [hxe] at e2; omega
          subst this
          exact Ds.up hx hD hno
        · rw [hxe] at e2; omega
      · refine .inr ⟨fun k hk hD => ?_, by rw [lnN, if_neg (fun hh => h hh.2), e]⟩
        by_cases ek : k ≤ n
        · exact hno k ek hD
        · have : k = n + 1 := by omega
          subst this
          obtain ⟨x, hx, hDx⟩ := hD.down
          refine h (List.any_eq_true.2 ⟨x, List.mem_range.2 hx, decide_eq_true ?_⟩)
          rcases lnN_spec (d := d) n (toN d s x) with ⟨k, hk, hD2, e2⟩ | ⟨hn2, e2⟩
          · rw [e2, hD2.unique hDx]
          · exact absurd hDx (hn2 n (Nat.le_refl _))
def lnD (d : DFA) (s : Nat) : Int := lnN d (d.next.length - 1) s
theorem lnD_iff {d : DFA} (hv : Val d) {s k : Nat} (hs : s < d.next.length) : lnD d s = (k : Int) ↔ Ds d s k := by
  unfold lnD
  rcases lnN_spec (d := d) (d.next.length - 1) s with ⟨m, hm, hD, e⟩ | ⟨hno, e⟩
  · rw [e]
    exact ⟨fun h => by have : m = k := by omega
                       subst this; exact hD, fun h => by rw [hD.unique h]⟩
  · rw [e]
    exact ⟨fun h => by omega, fun h => absurd h (hno k (by have := h.lt hv hs; omega))⟩
theorem lnD_neg {d : DFA} (hv : Val d) {s : Nat} (hs : s < d.next.length) : (∃ k : Nat, lnD d s = (k : Int)) ∨ (lnD d s = -1 ∧ ∀ u, Wd d u → finN d (runN d s u) = false) := by
  unfold lnD
  rcases lnN_spec (d := d) (d.next.length - 1) s with ⟨m, hm, hD, e⟩ | ⟨hno, e⟩
  · exact .inl ⟨m, e⟩
  · refine .inr ⟨e, fun u hu => ?_⟩
    cases hf : finN d (runN d s u) with
    | false => rfl
    | true =>
      obtain ⟨k, hk, hD⟩ := Ds.some u.length u hu hf (Nat.le_refl _)
      exact absurd hD (hno k (by have := hD.lt hv hs; omega))
structure GI (d : DFA) (K : Nat) (w : List Nat) (s : Nat) : Prop where
  wd : Wd d w
  run : runN d d.start.toNat w = s
  len : w.length ≤ K
  dist : Ds d s (K - w.length)
  le : ∀ u, Wd d u → acc d u = true → u.length = K → code w ≤ code (u.take w.length)
theorem GI.zero {d : DFA} {K : Nat} (h : Ds d d.start.toNat K) : GI d K [] d.start.toNat := ⟨fun x hx => (by cases hx), rfl, Nat.zero_le _, by simpa using h, fun u _ _ _ => by simp [code]⟩
theorem GI.step {d : DFA} (hv : Val d) {K : Nat} {w : List Nat} {s x : Nat} (h : GI d K w s) (hl : w.length < K) (hx : x < letN d) (hD : Ds d (toN d s x) (K - w.length - 1)) (hmin : ∀ y, y < x → ¬ Ds d (toN d s y) (K - w.length - 1)) : GI d K (w ++ [x]) (toN d s x) := by
  have hwx : Wd d (w ++ [x]) := fun y hy => (List.mem_append.1 hy).elim (h.wd y) fun hy => by rw [List.mem_singleton.1 hy]; exact hx
  refine ⟨hwx, by rw [runN_snoc, h.run], by simp; omega, by simpa [Nat.sub_sub] using hD, fun u hu ha hul => ?_⟩
  have hlu : w.length < u.length := by omega
  rw [List.length_append, List.length_singleton, List.take_succ_eq_append_getElem hlu, code_snoc, code_snoc]
  have h1 := h.le u hu ha hul
  have hy := hu _ (List.getElem_mem hlu)
  have hx64 : x < 64 := by have := hv.width; unfold letN at hx; omega
  by_cases e : code w = code (u.take w.length)
  · have htk : Wd d (u.take w.length) := fun x hx => hu x (List.mem_of_mem_take hx)
    have ew := code_inj w (u.take w.length) (hv.wd64 h.wd) (hv.wd64 htk) e
    have hge : x ≤ u[w.length] := by
      refine Classical.byContradiction fun hlt => hmin u[w.length] (by omega) ?_
      have hdr : u = (u.take w.length ++ [u[w.length]]) ++ u.drop (w.length + 1) := by
        rw [← List.take_succ_eq_append_getElem hlu, List.take_append_drop]
      have hrun : runN d d.start.toNat u = runN d (toN d s u[w.length]) (u.drop (w.length + 1)) := by
        conv => lhs; rw [hdr]
        rw [runN_append, runN_snoc, ← ew, h.run]
      have hwdr : Wd d (u.drop (w.length + 1)) := fun x hx => hu x (List.mem_of_mem_drop hx)
      have hf : finN d (runN d (toN d s u[w.length]) (u.drop (w.length + 1))) = true := by rw [← hrun]; exact ha
      refine ⟨⟨u.drop (w.length + 1), hwdr, by rw [List.length_drop]; omega, hf⟩, fun y' hy' hyf => ?_⟩
      have := h.dist.2 (u[w.length] :: y') (Wd.cons.2 ⟨hy, hy'⟩) hyf
      simp at this; omega
    omega
  · omega
theorem GI.least {d : DFA} (hv : Val d) {w : List Nat} {s : Nat} (h : GI d w.length w s) (hK : Ds d d.start.toNat w.length) : LeastA d (some w) := by
  have h0 := h.dist
  rw [Nat.sub_self] at h0
  obtain ⟨u, _, e, hf⟩ := h0.1
  have : u = [] := List.eq_nil_of_length_eq_zero e
  subst this
  have hacc : acc d w = true := by unfold acc; rw [h.run]; exact hf
  refine ⟨h.wd, hacc, fun u hu ha => ?_⟩
  have hl := hK.2 u hu ha
  by_cases e : u.length = w.length
  · have := h.le u hu ha e
    rwa [List.take_of_length_le (by omega)] at this
  · refine Classical.byContradiction fun hlt => ?_
    have := code_len u w (hv.wd64 hu) (hv.wd64 h.wd) (by omega)
    omega
theorem GI.next {d : DFA} {K : Nat} {w : List Nat} {s : Nat} (h : GI d K w s) (hl : w.length < K) : ∃ x, x < letN d ∧ Ds d (toN d s x) (K - w.length - 1) := by
  have := h.dist
  rw [show K - w.length = (K - w.length - 1) + 1 by omega] at this
  exact this.down
end Go.Lx


namespace Go.Lx
open Go.RowKit
set_option linter.unusedVariables false
def QRec.cel (q : QRec) : List Value := [.int .i64 ((q.p.1 : Nat) : Int), .slice q.b q.xs.length q.c]
abbrev rcells (rs : List QRec) : List Value := rs.flatMap QRec.cel
theorem rcells_len : ∀ rs : List QRec, (rcells rs).length = rs.length * 2
  | [] => rfl
  | q :: rs => by
    have := rcells_len rs
    simp only [rcells] at this
    simp only [rcells, List.flatMap_cons, List.length_append, this, List.length_cons, QRec.cel, List.length_nil]
    omega
def seenB (d : DFA) (A : List Stp) : List Bool := (List.range d.next.length).map fun t => decide ((t, t) ∈ A.map Prod.fst)
theorem seenB_len (d : DFA) (A : List Stp) : (seenB d A).length = d.next.length := by simp [seenB]
theorem seenB_at {d : DFA} {A : List Stp} {t : Nat} (h : t < d.next.length) : (bools (seenB d A))[t]? = some (.bool (decide ((t, t) ∈ A.map Prod.fst))) := by
  rw [List.getElem?_map, seenB, List.getElem?_map, List.getElem?_range h]; rfl
theorem seenB_set {d : DFA} {A : List Stp} {t : Nat} (w : List Nat) : (seenB d A).set t true = seenB d (A ++ [((t, t), w)]) := by
  apply List.ext_getElem?
  intro i
  by_cases hi : i < d.next.length
  · by_cases e : t = i
    · subst e
      rw [List.getElem?_set_self (by rw [seenB_len]; exact hi), seenB, List.getElem?_map, List.getElem?_range hi]
      simp
    · rw [List.getElem?_set_ne e, seenB, seenB, List.getElem?_map, List.getElem?_map, List.getElem?_range hi]
      have e' : ¬ i = t := fun h => e h.symm
      simp [e']
  · rw [List.getElem?_eq_none (by rw [List.length_set, seenB_len]; omega), List.getElem?_eq_none (by rw [seenB_len]; omega)]
theorem seenB_put {d : DFA} {A : List Stp} {t : Nat} (w : List Nat) (h : t < d.next.length) : putL (bools (seenB d A)) t [.bool true] = bools (seenB d (A ++ [((t, t), w)])) := by
  rw [← seenB_set]; simp [putL]
theorem seenB_zero (d : DFA) : bools (seenB d []) = List.replicate d.next.length (.bool false) := by
  apply List.ext_getElem?
  intro i
  by_cases hi : i < d.next.length
  · rw [seenB_at hi, List.getElem?_replicate, if_pos hi]; simp
  · rw [List.getElem?_eq_none (by rw [List.length_map, seenB_len]; omega), List.getElem?_replicate, if_neg hi]
theorem sho_mid {d : DFA} (hv : Val d) {i : Nat} {q : Stp} (h : ∀ j, j < i → ∃ q, (shq d j)[j]? = some q ∧ finN d q.1.1 = false) (hq : (shq d i)[i]? = some q) {x : Nat} (hx : x ≤ letN d) :
    (pushN d q (shq d i) x).length ≤ d.next.length ∧ q.1 = (q.1.1, q.1.1) ∧ q.1.1 < d.next.length ∧ q.2.length ≤ i ∧ i < d.next.length ∧ i < (pushN d q (shq d i) x).length := by
  have hI := shq_inv hv h
  have hs := start_lt hv
  have hm := hI.mid hq x hx
  have hd : ∀ r ∈ pushN d q (shq d i) x, r.1 = (r.1.1, r.1.1) ∧ r.1.1 < d.next.length := fun r hr => by
    obtain ⟨h1, h2⟩ := hm.run r hr
    exact ⟨by rw [h2], by rw [h2]; exact runN_lt hv hs _ h1⟩
  have hnd : ((pushN d q (shq d i) x).map (·.1.1)).Nodup := by
    have hn := hm.nd
    rw [List.nodup_iff_pairwise_ne, List.pairwise_map] at hn ⊢
    exact hn.imp_of_mem fun ha hb hne e => hne (by rw [(hd _ ha).1, (hd _ hb).1, e])
  have hl := nodup_bound (n := d.next.length) hnd fun y hy => by
    obtain ⟨r, hr, rfl⟩ := List.mem_map.1 hy
    exact (hd r hr).2
  rw [List.length_map] at hl
  have hil := (List.getElem?_eq_some_iff.1 hm.at_).1
  have := hd q (List.mem_of_getElem? hm.at_)
  exact ⟨hl, this.1, this.2, bq_wlen d _ _ i q (List.mem_of_getElem? hq), by omega, hil⟩
def ShoV (E : TypeId) (e : Nat) (v : Value) (N : List Item) : Option (List Nat) → Prop
  | some u => ∃ b c, v = .tuple #[.slice b u.length c, .bool true, .int .i64 (e : Int)] ∧ N = [rowI b c E 1 (byts u)]
  | none => v = .tuple #[.slice none 0 0, .bool false, .int .i64 (e : Int)] ∧ N = []
end Go.Lx


namespace Go.Proofs.YtnpehjpookcfkaaGreatDoor
open Go.Lx Go.RowKit _root_.Go.Proofs.Tryz
set_option linter.unusedVariables false
set_option linter.unusedSimpArgs false
theorem shoOk (w : World) [Tab Tryz.prog w] (a : DFA) (k : DK) (ha : At w a k) (hv : Valid a) :
    PureT Tryz.prog 73 [dV a k] w fun v N => ∃ res, LeastA a res ∧ ShoV 5 0 v N res := by
  refine CallT.enter Tryz.func73 rfl Tryz.ntmps73 rfl ?_
  have he := checkD_zero.2 hv
  have haa : a.next.length < 9223372036854775807 := by have := hv.n4; omega
  have haar : ∀ r ∈ a.next, r.length < 9223372036854775807 := hv.bound
  have haaf : a.final.length < 9223372036854775807 := by have := hv.fin; omega
  have h4 := hv.n4
  have hww := hv.width
  have hsl := start_lt hv.toVal
  have hs0 := hv.s0
  have hs1 := hv.s1
  have hvl := ha.rows.1
  have hfin := hv.fin
  refine T.s (T.rg ?_)
  refine TO.l rfl (l_box (v := (dV a k)) (cs := (dC a k)) rfl rfl (fun z1 => ?_))
  refine TO.qa rfl (TO.qa rfl (TO.qa rfl ?_))
  refine TO.nl (T.s (T.s (T.rg ?_)))
  refine TO.q (q_la 0 underlying25 rfl inf25 rfl rfl rfl) ?_
  have hk12 := fun (w1 : World) (hI : Inv w [oI z1 25 (dC a k)] w1) => (haveI := tbz hI; subsetCheck w1 a k.nb k.fb k.nc k.fc (vals k.qs) (hI.dfa ha) haa haar haaf)
  refine TO.l rfl (l_call ent33 (CallT.op hk12) rfl ?_)
  clear hk12
  rintro vr O' ⟨N, rfl, rfl, rfl⟩
  rw [he]
  refine TO.qa rfl ?_
  refine TO.nl (T.s (T.rg ?_))
  refine TO.qm rfl (TO.q (q_neq rfl rfl) ?_)
  refine TO.nl ?_
  refine T.cond0 rfl ?_
  refine T.skip (T.s (T.rg ?_))
  refine TO.q (q_fa underlying25 rfl inf22 rfl rfl) (TO.q (q_lb 0 underlying22 rfl rfl rfl rfl) (TO.q (q_len underlying22 rfl) ?_))
  refine TO.l rfl (l_makeSlice (m := a.next.length) underlying23 inf4 rfl rfl (by omega) (by omega) (fun z2 => ?_))
  refine TO.qa rfl ?_
  refine TO.nl (T.s (T.rg ?_))
  refine TO.qm rfl (TO.q (q_fa underlying25 rfl inf3 rfl rfl) (TO.q (q_lb 1 underlying3 rfl rfl rfl rfl) (TO.q (q_ixz (i := a.start) underlying23 inf4 rfl rfl (rowO (mG 0 rfl)) (by first | assumption | omega) (by omega) (by rw [List.length_replicate]; omega)) ?_)))
  refine TO.l rfl (l_st (j := a.start.toNat) (v := .bool true) (vs := [(.bool true)]) (cs := List.replicate a.next.length (.bool false)) 0 inf4 rfl rfl rfl rfl rfl (by simp) rfl (by rw [List.length_replicate]; simp; omega) ?_)
  refine TO.sub (O' := [rowI (some ⟨z2, 0, none⟩) a.next.length 4 1 (bools (seenB a (shq a 0))), oI z1 25 (dC a k)]) (by rw [show putL (List.replicate a.next.length (.bool false)) a.start.toNat [(.bool true)] = bools (seenB a (shq a 0)) from (by rw [← seenB_zero]; exact seenB_put [] hsl)]; exact Sub.of (List.Sublist.refl _)) ?_
  refine TO.nl (T.s (T.s (T.rg ?_)))
  refine TO.q (q_fa underlying25 rfl inf3 rfl rfl) (TO.q (q_lb 1 underlying3 rfl rfl rfl rfl) (TO.q (q_build (cs := [(.int .i64 a.start), (.slice none 0 0)]) plan120 inf120 (by kernel_rfl)) ?_))
  refine TO.l rfl (l_buildSlice (m := 1) (parts := [(0, _)]) (cs := [(.int .i64 a.start), (.slice none 0 0)]) underlying121 inf120 (by decide) (by kernel_rfl) rfl (fun z3 => ?_))
  refine TO.qa rfl ?_
  refine TO.nl ?_
  refine T.nilRow 5 1 ?_
  refine T.sub (O' := [rowI (some ⟨z3, 0, none⟩) 1 120 2 [(.int .i64 a.start), (.slice none 0 0)], rowI (some ⟨z2, 0, none⟩) a.next.length 4 1 (bools (seenB a (shq a 0))), oI z1 25 (dC a k), rowI none 0 5 1 []]) (by exact Sub.pull [rowI none 0 5 1 []] _ (.pull [rowI none 0 5 1 []] _ (.pull [rowI none 0 5 1 []] _ (.k .z)))) ?_
  refine T.sub (O' := ([rowI (some ⟨z3, 0, none⟩) 1 120 2 (rcells [⟨(a.start.toNat, a.start.toNat), none, 0, []⟩]), rowI (some ⟨z2, 0, none⟩) a.next.length 4 1 (bools (seenB a (shq a 0))), oI z1 25 (dC a k)] ++ qitms 5 [⟨(a.start.toNat, a.start.toNat), none, 0, []⟩])) (by rw [show rcells [⟨(a.start.toNat, a.start.toNat), none, 0, []⟩] = [.int .i64 ((a.start.toNat : Nat) : Int), .slice none 0 0] from rfl, show ((a.start.toNat : Nat) : Int) = a.start from Int.toNat_of_nonneg hs0]; exact Sub.rf) ?_
  refine T.block ?_
  refine T.loop (fun (i : Nat) ρ O => ∃ (qb : Option Addr) (qc m : Nat) (rs : List QRec), O = ([rowI qb qc 120 2 (rcells rs), rowI (some ⟨z2, 0, none⟩) a.next.length 4 1 (bools (seenB a (shq a i))), oI z1 25 (dC a k)] ++ (qitms 5 rs)) ∧ m = rs.length ∧ rs.map QRec.stp = (shq a i).drop i ∧ (∀ j, j < i → ∃ q, (shq a j)[j]? = some q ∧ finN a q.1.1 = false) ∧ Heads [(0, (dV a k)), (1, (.pointer (some ⟨z1, 0, none⟩))), (5, .int .i64 0), (6, (.slice (some ⟨z2, 0, none⟩) a.next.length a.next.length)), (7, (.slice qb m qc))] ρ) (fun i => a.next.length - i) 0 ?_ ?_
  · exact ⟨_, _, 1, [⟨(a.start.toNat, a.start.toNat), none, 0, []⟩], rfl, rfl, rfl, fun j hj => absurd hj (by omega), ⟨rfl, rfl, rfl, rfl, rfl, trivial⟩⟩
  rintro i ρ O ⟨qb, qc, m, rs, rfl, hm, hrs, hj, hH⟩
  obtain ⟨ρ0, rfl⟩ := hH.elim
  clear hH
  refine T.s (T.s (T.rg ?_))
  refine TO.qm rfl (TO.q (q_len underlying121 rfl) (TO.q (q_gtr rfl rfl) ?_))
  refine TO.nl ?_
  refine T.condP rfl (fun hc => ?_) (fun hc => ?_)
  · have hlt30 : m > 0 := by omega
    refine T.skip (T.s (T.block (T.s ?_)))
    obtain ⟨q0, rest, rfl⟩ : ∃ q0 rest, rs = q0 :: rest := by
      cases rs with
      | nil => subst hm; exact absurd hc (by simp)
      | cons a l => exact ⟨a, l, rfl⟩
    obtain ⟨m, rfl⟩ : ∃ k, m = k + 1 := ⟨rest.length, hm⟩
    have hm : m = rest.length := by simpa using hm
    have hq0 : (shq a i)[i]? = some q0.stp := by
      have := congrArg List.head? hrs
      rw [List.head?_drop] at this
      simpa using this.symm
    have hmid := fun x (hx : x ≤ letN a) => sho_mid hv.toVal hj hq0 hx
    have hpd : q0.p = (q0.p.1, q0.p.1) := (hmid 0 (Nat.zero_le _)).2.1
    have hp1 : q0.p.1 < a.next.length := (hmid 0 (Nat.zero_le _)).2.2.1
    have hwl : q0.xs.length ≤ i := (hmid 0 (Nat.zero_le _)).2.2.2.1
    have hi9 := (hmid 0 (Nat.zero_le _)).2.2.2.2.1
    have hf1 : q0.p.1 < a.final.length := by omega
    obtain ⟨vb1, vc1, g1, s1⟩ := ha.rows.get hp1
    have hl1 : a.next[q0.p.1].length = 2 ^ a.vars.toNat := hv.len _ (List.getElem_mem hp1)
    refine T.rg ?_
    refine TO.qm rfl (TO.q (q_ixK (i := 0) underlying121 inf120 rfl rfl (rowO (mG 0 rfl)) (by omega) (by rw [rcells_len]; simp)) (TO.q (q_ldK (vs := [(.int .i64 ((q0.p.1 : Nat) : Int)), (.slice q0.b q0.xs.length q0.c)]) underlying120 rfl inf120 rfl rfl (Nat.succ_pos _) (rowO (mG 0 rfl)) (by intro j hj; match j, hj with | 0, _ => rfl | 1, _ => rfl)) ?_))
    refine TO.l rfl (l_alloc inf120 rfl (fun z4 => ?_))
    refine TO.l rfl (l_sb (v := (.agg #[(.int .i64 ((q0.p.1 : Nat) : Int)), (.slice q0.b q0.xs.length q0.c)])) (vs := [(.int .i64 ((q0.p.1 : Nat) : Int)), (.slice q0.b q0.xs.length q0.c)]) 0 inf120 rfl rfl rfl rfl rfl rfl (by simp [putL]) ?_)
    refine TO.nl (T.s (T.s (T.rg ?_)))
    refine TO.q (q_fa underlying25 rfl inf23 rfl rfl) (TO.q (q_lb 3 underlying23 rfl rfl rfl rfl) (TO.q (q_fa underlying120 rfl inf3 rfl rfl) (TO.q (q_lb 0 underlying3 rfl rfl rfl rfl) ?_)))
    refine TO.q (q_ix (i := q0.p.1) underlying23 inf4 rfl rfl (Sl.o ha.final) hf1 (by rw [List.length_map]; exact hf1)) (TO.q (q_ld underlying4 rfl rfl (Sl.o ha.final) (bools_get hf1)) ?_)
    refine TO.nl ?_
    refine T.cond rfl (fun hc => ?_) (fun hc => ?_)
    · have hne : finN a q0.p.1 = true := by simpa [finN, hf1] using hc
      refine T.s (T.rg ?_)
      refine TO.q (q_fa underlying120 rfl inf34 rfl rfl) (TO.q (q_lb 0 underlying34 rfl rfl rfl rfl) (TO.qa rfl (TO.qa rfl ?_)))
      refine TO.qa rfl ?_
      refine TO.nl (T.ret (Res.drop ?_))
      refine Res.three (.slice q0.b q0.xs.length q0.c) (.bool true) (.int .i64 0) Tryz.results73 rfl rfl rfl ?_
      exact ⟨[QRec.itm 5 q0], (by show Sub _ ([oI z4 120 [(.int .i64 ((q0.p.1 : Nat) : Int)), (.slice q0.b q0.xs.length q0.c)], rowI qb qc 120 2 (rcells (q0 :: rest)), rowI (some ⟨z2, 0, none⟩) a.next.length 4 1 (bools (seenB a (shq a i))), oI z1 25 (dC a k)] ++ qitms 5 (q0 :: rest)); exact Sub.appL [oI z4 120 [(.int .i64 ((q0.p.1 : Nat) : Int)), (.slice q0.b q0.xs.length q0.c)], rowI qb qc 120 2 (rcells (q0 :: rest)), rowI (some ⟨z2, 0, none⟩) a.next.length 4 1 (bools (seenB a (shq a i))), oI z1 25 (dC a k)] (Sub.k Sub.z)), some q0.xs, ShR.least hv.toVal ⟨i, hj, q0.stp, hq0, hne, rfl⟩, q0.b, q0.c, rfl, rfl⟩
    have heq : finN a q0.p.1 = false := by simpa [finN, hf1] using hc
    refine T.skip (T.s (T.rg ?_))
    refine TO.q (q_fa underlying25 rfl inf22 rfl rfl) (TO.q (q_lb 3 underlying22 rfl rfl rfl rfl) (TO.q (q_fa underlying120 rfl inf3 rfl rfl) (TO.q (q_lb 0 underlying3 rfl rfl rfl rfl) ?_)))
    refine TO.q (q_ix (i := q0.p.1) underlying22 inf48 rfl rfl (Sl.o ha.outer) hp1 (hvl ▸ hp1)) (TO.q (q_ld underlying48 rfl rfl (Sl.o ha.outer) g1) (TO.q (q_len underlying48 rfl) (TO.qm rfl ?_)))
    refine TO.nl (T.block ?_)
    refine T.sub (O' := ([rowI qb qc 120 2 (rcells (q0 :: rest)), rowI (some ⟨z2, 0, none⟩) a.next.length 4 1 (bools (seenB a (shq a i))), oI z4 120 [(.int .i64 ((q0.p.1 : Nat) : Int)), (.slice q0.b q0.xs.length q0.c)], oI z1 25 (dC a k)] ++ qitms 5 (q0 :: rest))) (Sub.pickR [1, 1, 0, 0] [oI z4 120 [(.int .i64 ((q0.p.1 : Nat) : Int)), (.slice q0.b q0.xs.length q0.c)], rowI qb qc 120 2 (rcells (q0 :: rest)), rowI (some ⟨z2, 0, none⟩) a.next.length 4 1 (bools (seenB a (shq a i))), oI z1 25 (dC a k)] (qitms 5 (q0 :: rest)) rfl rfl) ?_
    refine T.loop (fun (x : Nat) ρ O => ∃ (qb : Option Addr) (qc m : Nat) (rest : List QRec), O = ([rowI qb qc 120 2 (rcells (q0 :: rest)), rowI (some ⟨z2, 0, none⟩) a.next.length 4 1 (bools (seenB a (pushN a q0.stp (shq a i) x))), oI z4 120 [(.int .i64 ((q0.p.1 : Nat) : Int)), (.slice q0.b q0.xs.length q0.c)], oI z1 25 (dC a k)] ++ (qitms 5 (q0 :: rest))) ∧ x ≤ letN a ∧ m = rest.length ∧ (q0 :: rest).map QRec.stp = (pushN a q0.stp (shq a i) x).drop i ∧ Heads [(0, (dV a k)), (1, (.pointer (some ⟨z1, 0, none⟩))), (5, .int .i64 0), (6, (.slice (some ⟨z2, 0, none⟩) a.next.length a.next.length)), (7, (.slice qb (m + 1) qc)), (8, (.pointer (some ⟨z4, 0, none⟩))), (49, (.slice vb1 a.next[q0.p.1].length vc1)), (50, .int .i64 (a.next[q0.p.1].length : Int)), (51, .int .i64 ((x : Nat) : Int))] ρ) (fun x => letN a - x) 0 ?_ ?_
    · exact ⟨qb, qc, m, rest, rfl, Nat.zero_le _, hm, hrs, ⟨rfl, rfl, rfl, rfl, rfl, rfl, rfl, rfl, rfl, trivial⟩⟩
    rintro x ρ O ⟨qb, qc, m, rest, rfl, hx9, hm, hrs2, hH⟩
    obtain ⟨ρ0, rfl⟩ := hH.elim
    clear hH
    refine T.s (T.rg ?_)
    refine TO.q (q_lss rfl rfl) ?_
    refine TO.nl (T.s ?_)
    refine T.condP rfl (fun hc => ?_) (fun hc => ?_)
    · have hlt52 : x < a.next[q0.p.1].length := by omega
      have hlx : x < letN a := by rw [hl1] at hlt52; exact hlt52
      refine T.skip (T.s (T.block (T.s ?_)))
      obtain ⟨hto, _, hxk1, hx1⟩ := hv.toN_lt hp1 hlx
      have hx1 : (ints a.next[q0.p.1])[x]? = some (.int .i64 ((toN a q0.p.1 x : Nat) : Int)) := by rw [ints_get hxk1, hx1]
      have hsd : suc2 a q0.p x = (toN a q0.p.1 x, toN a q0.p.1 x) := by rw [hpd]; rfl
      refine T.rg ?_
      refine TO.qm rfl (TO.q (q_ix (i := x) underlying48 inf3 rfl rfl (Sl.o s1) hlt52 (by rw [List.length_map]; exact hlt52)) (TO.q (q_ld underlying3 rfl rfl (Sl.o s1) hx1) (TO.qa rfl ?_)))
      refine TO.qa rfl ?_
      refine TO.nl (T.s (T.rg ?_))
      refine TO.qm rfl (TO.qm rfl (TO.q (q_ix (i := (toN a q0.p.1 x)) underlying23 inf4 rfl rfl (rowO (mG 1 rfl)) hto (by rw [List.length_map, seenB_len]; exact hto)) (TO.q (q_ld underlying4 rfl rfl (rowO (mG 1 rfl)) (seenB_at hto)) ?_)))
      refine TO.q (QT.cast (q_not rfl) (v' := .bool (decide (¬ suc2 a q0.p x ∈ (pushN a q0.stp (shq a i) x).map Prod.fst))) (by rw [hsd]; simp)) ?_
      refine TO.nl ?_
      refine T.condP rfl (fun hc => ?_) (fun hc => ?_)
      · have hin : ¬ suc2 a q0.p x ∈ (pushN a q0.stp (shq a i) x).map Prod.fst := hc
        have hsc := fun w => show bools (seenB a ((pushN a q0.stp (shq a i) x) ++ [(suc2 a q0.p x, w)])) = bools (seenB a ((pushN a q0.stp (shq a i) x) ++ [(suc2 a q0.p x, w)])) from rfl
        have hrl : rest.length + 1 ≤ a.next.length := by
          have := congrArg List.length hrs2
          simp at this
          have := (hmid x hx9).1
          omega
        have hil := (hmid x hx9).2.2.2.2.2
        refine T.s (T.rg ?_)
        refine TO.qm rfl (TO.qm rfl (TO.q (q_ix (i := (toN a q0.p.1 x)) underlying23 inf4 rfl rfl (rowO (mG 1 rfl)) hto (by rw [List.length_map, seenB_len]; exact hto)) ?_))
        refine TO.l rfl (l_st (j := (toN a q0.p.1 x)) (v := .bool true) (vs := [(.bool true)]) (cs := bools (seenB a (pushN a q0.stp (shq a i) x))) 1 inf4 rfl rfl rfl rfl rfl (by simp) rfl (by rw [List.length_map, seenB_len]; simp; omega) ?_)
        refine TO.sub (O' := ([rowI qb qc 120 2 (rcells (q0 :: rest)), rowI (some ⟨z2, 0, none⟩) a.next.length 4 1 (bools (seenB a ((pushN a q0.stp (shq a i) x) ++ [(suc2 a q0.p x, q0.xs ++ [x])]))), oI z4 120 [(.int .i64 ((q0.p.1 : Nat) : Int)), (.slice q0.b q0.xs.length q0.c)], oI z1 25 (dC a k)] ++ (qitms 5 (q0 :: rest)))) (by rw [show putL (bools (seenB a (pushN a q0.stp (shq a i) x))) (toN a q0.p.1 x) [(.bool true)] = bools (seenB a ((pushN a q0.stp (shq a i) x) ++ [(suc2 a q0.p x, q0.xs ++ [x])])) from (by rw [hsd]; exact seenB_put _ hto)]; exact Sub.of (List.Sublist.refl _)) ?_
        refine TO.nl (T.rg ?_)
        refine TO.qm rfl (TO.qm rfl (TO.q (q_fa underlying120 rfl inf34 rfl rfl) (TO.q (q_lb 2 underlying34 rfl rfl rfl rfl) ?_)))
        have hk68 := fun (w1 : World) (hI : Inv w ([rowI qb qc 120 2 (rcells (q0 :: rest)), rowI (some ⟨z2, 0, none⟩) a.next.length 4 1 (bools (seenB a ((pushN a q0.stp (shq a i) x) ++ [(suc2 a q0.p x, q0.xs ++ [x])]))), oI z4 120 [(.int .i64 ((q0.p.1 : Nat) : Int)), (.slice q0.b q0.xs.length q0.c)], oI z1 25 (dC a k)] ++ (qitms 5 (q0 :: rest))) w1) => (haveI := tbz hI; cloneC w1 q0.b q0.c q0.xs (hI.slOf (T := 5) (k := 1) (List.mem_append_right _ List.mem_cons_self)) (by omega))
        refine TO.l rfl (l_call ent97 (CallT.op hk68) rfl ?_)
        clear hk68
        rintro vr O' ⟨N, rfl, wb, wc, rfl, rfl⟩
        refine TO.qm rfl (TO.q (q_conv_id underlying3 underlying5 rfl (wrap8 (by omega))) ?_)
        refine TO.l rfl (l_build1 (v := .int .u8 ((x : Nat) : Int)) underlying34 inf5 rfl rfl rfl (fun z5 => ?_))
        refine TO.l rfl (l_append 1 underlying34 underlying34 inf5 rfl rfl rfl rfl (by rw [List.length_map, Nat.mul_one]) (by decide) (Src.row (j := 0) rfl (by simp)) (by simp [oneB]) (by omega) (by decide) (by decide) (fun z6 zc7 => ?_))
        refine TO.q (q_build (cs := [.int .i64 ((toN a q0.p.1 x : Nat) : Int), (.slice z6 (q0.xs.length + 1) zc7)]) plan120 inf120 (by kernel_rfl)) ?_
        refine TO.l rfl (l_buildSlice (m := 1) (parts := [(0, _)]) (cs := [.int .i64 ((toN a q0.p.1 x : Nat) : Int), (.slice z6 (q0.xs.length + 1) zc7)]) underlying121 inf120 (by decide) (by kernel_rfl) rfl (fun z8 => ?_))
        refine TO.l rfl (l_append 3 underlying121 underlying121 inf120 rfl rfl rfl rfl (by rw [rcells_len, hm]; rfl) (by decide) (Src.row (j := 0) rfl (by simp)) (by simp [oneB]) (by omega) (by decide) (by decide) (fun z9 zc10 => ?_))
        refine TO.qa rfl ?_
        refine TO.nl ?_
        obtain ⟨wb2, hwb2⟩ : ∃ z, z = z6 := ⟨_, rfl⟩
        obtain ⟨wc2, hwc2⟩ : ∃ z, z = zc7 := ⟨_, rfl⟩
        refine T.sub (O' := ([rowI z9 zc10 120 2 ((rcells (q0 :: rest)) ++ [.int .i64 ((toN a q0.p.1 x : Nat) : Int), (.slice z6 (q0.xs.length + 1) zc7)]), rowI (some ⟨z2, 0, none⟩) a.next.length 4 1 (bools (seenB a ((pushN a q0.stp (shq a i) x) ++ [(suc2 a q0.p x, q0.xs ++ [x])]))), oI z4 120 [(.int .i64 ((q0.p.1 : Nat) : Int)), (.slice q0.b q0.xs.length q0.c)], oI z1 25 (dC a k), rowI z6 zc7 5 1 ((byts q0.xs) ++ [.int .u8 ((x : Nat) : Int)])] ++ qitms 5 (q0 :: rest))) (Sub.pickR [3, 3, 3, 3, 2] [rowI (some ⟨z8, 0, none⟩) 1 120 2 [.int .i64 ((toN a q0.p.1 x : Nat) : Int), (.slice z6 (q0.xs.length + 1) zc7)], rowI (some ⟨z5, 0, none⟩) 1 5 1 [.int .u8 ((x : Nat) : Int)], rowI z6 zc7 5 1 ((byts q0.xs) ++ [.int .u8 ((x : Nat) : Int)]), rowI z9 zc10 120 2 ((rcells (q0 :: rest)) ++ [.int .i64 ((toN a q0.p.1 x : Nat) : Int), (.slice z6 (q0.xs.length + 1) zc7)]), rowI (some ⟨z2, 0, none⟩) a.next.length 4 1 (bools (seenB a ((pushN a q0.stp (shq a i) x) ++ [(suc2 a q0.p x, q0.xs ++ [x])]))), oI z4 120 [(.int .i64 ((q0.p.1 : Nat) : Int)), (.slice q0.b q0.xs.length q0.c)], oI z1 25 (dC a k)] (qitms 5 (q0 :: rest)) rfl rfl) ?_
        refine T.sub (O' := ([rowI z9 zc10 120 2 ((rcells (q0 :: rest)) ++ [.int .i64 ((toN a q0.p.1 x : Nat) : Int), (.slice z6 (q0.xs.length + 1) zc7)]), rowI (some ⟨z2, 0, none⟩) a.next.length 4 1 (bools (seenB a ((pushN a q0.stp (shq a i) x) ++ [(suc2 a q0.p x, q0.xs ++ [x])]))), oI z4 120 [(.int .i64 ((q0.p.1 : Nat) : Int)), (.slice q0.b q0.xs.length q0.c)], oI z1 25 (dC a k)] ++ qitms 5 (q0 :: (rest ++ [⟨suc2 a q0.p x, wb2, wc2, q0.xs ++ [x]⟩])))) (by rw [show qitms 5 (q0 :: (rest ++ [⟨suc2 a q0.p x, wb2, wc2, q0.xs ++ [x]⟩])) = qitms 5 (q0 :: rest) ++ [rowI z6 zc7 5 1 ((byts q0.xs) ++ [.int .u8 ((x : Nat) : Int)])] by subst hwb2; subst hwc2; simp [QRec.itm]]; exact Sub.foldN [rowI z9 zc10 120 2 ((rcells (q0 :: rest)) ++ [.int .i64 ((toN a q0.p.1 x : Nat) : Int), (.slice z6 (q0.xs.length + 1) zc7)]), rowI (some ⟨z2, 0, none⟩) a.next.length 4 1 (bools (seenB a ((pushN a q0.stp (shq a i) x) ++ [(suc2 a q0.p x, q0.xs ++ [x])]))), oI z4 120 [(.int .i64 ((q0.p.1 : Nat) : Int)), (.slice q0.b q0.xs.length q0.c)], oI z1 25 (dC a k)] (rowI z6 zc7 5 1 ((byts q0.xs) ++ [.int .u8 ((x : Nat) : Int)])) (qitms 5 (q0 :: rest)) _ rfl) ?_
        refine T.rg ?_
        refine TO.q (q_addN (a := x) (b := 1) rfl rfl (by omega)) (TO.qm rfl ?_)
        refine TO.nl ?_
        have hA : pushN a q0.stp (shq a i) (x + 1) = (pushN a q0.stp (shq a i) x) ++ [(suc2 a q0.p x, q0.xs ++ [x])] := by
          show pushS a q0.stp _ x = _
          unfold pushS
          exact if_neg hin
        refine ⟨x + 1, by omega, z9, zc10, m + 1, rest ++ [⟨suc2 a q0.p x, wb2, wc2, q0.xs ++ [x]⟩], ?_, by omega, by simp [hm], ?_, ⟨rfl, rfl, rfl, rfl, rfl, rfl, rfl, rfl, rfl, trivial⟩⟩
        · rw [hA, hsc, show rcells (q0 :: (rest ++ [⟨suc2 a q0.p x, wb2, wc2, q0.xs ++ [x]⟩])) = rcells (q0 :: rest) ++ [(.int .i64 ((toN a q0.p.1 x : Nat) : Int)), (.slice wb2 (q0.xs.length + 1) wc2)] by simp [QRec.cel, suc2]]; subst hwb2; subst hwc2; rfl
        · rw [hA, List.drop_append_of_le_length (by omega), ← hrs2]; simp [QRec.stp]
      have hin : suc2 a q0.p x ∈ (pushN a q0.stp (shq a i) x).map Prod.fst := Classical.not_not.1 hc
      have hil := (hmid x hx9).2.2.2.2.2
      refine T.skip (T.rg ?_)
      refine TO.q (q_addN (a := x) (b := 1) rfl rfl (by omega)) (TO.qm rfl ?_)
      refine TO.nl ?_
      have hA : pushN a q0.stp (shq a i) (x + 1) = (pushN a q0.stp (shq a i) x) := by
        show pushS a q0.stp _ x = _
        unfold pushS
        exact if_pos hin
      refine ⟨x + 1, by omega, qb, qc, m, rest, by rw [hA], by omega, hm, by rw [hA]; exact hrs2, ⟨rfl, rfl, rfl, rfl, rfl, rfl, rfl, rfl, rfl, trivial⟩⟩
    have hge52 : ¬ x < a.next[q0.p.1].length := by omega
    refine T.exit ?_
    refine T.rg ?_
    refine TO.qm rfl ?_
    refine TO.l rfl (l_tail 0 underlying121 inf120 (by decide) rfl rfl rfl (by rw [rcells_len, hm]; rfl) (by omega) (fun z11 => ?_))
    refine TO.qa rfl ?_
    refine TO.sub (O' := ([rowI z11 (qc - 1) 120 2 (rcells rest), rowI (some ⟨z2, 0, none⟩) a.next.length 4 1 (bools (seenB a (pushN a q0.stp (shq a i) x))), oI z1 25 (dC a k)] ++ qitms 5 (q0 :: rest))) (Sub.pickR [0, 0, 1] [rowI z11 (qc - 1) 120 2 (rcells rest), rowI (some ⟨z2, 0, none⟩) a.next.length 4 1 (bools (seenB a (pushN a q0.stp (shq a i) x))), oI z4 120 [(.int .i64 ((q0.p.1 : Nat) : Int)), (.slice q0.b q0.xs.length q0.c)], oI z1 25 (dC a k)] (qitms 5 (q0 :: rest)) rfl rfl) ?_
    refine TO.sub (O' := ([rowI z11 (qc - 1) 120 2 (rcells rest), rowI (some ⟨z2, 0, none⟩) a.next.length 4 1 (bools (seenB a (pushN a q0.stp (shq a i) x))), oI z1 25 (dC a k)] ++ qitms 5 rest)) (by exact Sub.k (Sub.k (Sub.k (Sub.d Sub.rf)))) ?_
    refine TO.nl ?_
    have hxe : x = letN a := Nat.le_antisymm hx9 (by rw [hl1] at hge52; exact Nat.le_of_not_lt hge52)
    have hbq : pushN a q0.stp (shq a i) x = shq a (i + 1) := by rw [hxe]; exact (bq_succ hq0).symm
    refine ⟨i + 1, by omega, z11, qc - 1, m, rest, by rw [hbq], hm, ?_, ?_, ⟨rfl, rfl, rfl, rfl, rfl, trivial⟩⟩
    · rw [← hbq]; have := congrArg List.tail hrs2; simpa [List.tail_drop] using this
    · intro j hj9
      by_cases e : j = i
      · subst e; exact ⟨q0.stp, hq0, heq⟩
      · exact hj j (by omega)
  have hge30 : ¬ m > 0 := by omega
  refine T.exit ?_
  refine T.s (T.rg ?_)
  refine TO.qa rfl (TO.qa rfl (TO.qa rfl ?_))
  refine TO.nl (T.ret (Res.drop ?_))
  refine Res.three (.slice none 0 0) (.bool false) (.int .i64 0) Tryz.results73 rfl rfl rfl ?_
  have hend : (shq a i).length ≤ i := by
    have := congrArg List.length hrs
    simp at this
    omega
  exact ⟨[], Sub.z, none, ShR.least hv.toVal (res := none) ⟨i, hj, hend⟩, rfl, rfl⟩
end Go.Proofs.YtnpehjpookcfkaaGreatDoor


namespace Go.Lx
open Go.RowKit
set_option linter.unusedVariables false
theorem HasL.opW {f : Bool → Bool → Bool} {v : Int} {n m N : Nat} {a b : DFA} {p q : List Nat → Bool} (ha : HasL v n a p) (hb : HasL v m b q) (h : (order (prodD f a b)).length ≤ N) (hN : N ≤ 4096) : MinL v N (opD f a b) (fun w => f (p w) (q w)) := by
  have hv : a.vars = b.vars := by rw [ha.vars, hb.vars]
  have vD : Val (prodD f a b) := prod_val ha.valid.toVal hb.valid.toVal hv
  have vR : Valid (renum (prodD f a b)) := renum_fit vD (Nat.le_trans h hN)
  have e : opD f a b = minD (renum (prodD f a b)) := (minD_renum vD).symm
  have hl : (minD (renum (prodD f a b))).next.length ≤ (renum (prodD f a b)).next.length := minD_len vR.toVal
  have hr : (renum (prodD f a b)).next.length = (order (prodD f a b)).length := by simp [renum]
  refine ⟨⟨?_, ?_, ha.vars, fun w hw => ?_⟩, opD_minW ha.valid.toVal hb.valid.toVal hv⟩
  · rw [e]; exact minD_valid vR
  · rw [e]; omega
  · rw [opD_accW ha.valid.toVal hb.valid.toVal hv (ha.wd.2 hw), ha.acc w hw, hb.acc w hw]
end Go.Lx


namespace Go.Lx
open Go.RowKit
set_option linter.unusedVariables false
theorem HasL.accV {v : Int} {n : Nat} {d : DFA} {p : List Nat → Bool} (h : HasL v n d p) {w : List Nat} (hw : WdV v w) (hl : w.length ≤ 64) : Lx.accV d w = p w := by
  rw [accV_zero (runE_zero.2 ⟨h.valid, hl, h.wd.2 hw⟩), h.acc w hw]
theorem min_bounds {v : Int} {n : Nat} {d : DFA} {p : List Nat → Bool} (h : HasL v n d p) : d.next.length < 9223372036854775807 ∧ (∀ r ∈ d.next, r.length < 9223372036854775807) ∧ d.final.length < 9223372036854775807 :=
  ⟨by have := h.valid.n4; omega, h.valid.bound, by have := h.valid.fin; have := h.valid.n4; omega⟩
end Go.Lx


namespace Go.Lx
open Go.RowKit
set_option linter.unusedVariables false
structure Sh (d : DFA) : Prop where
  n8 : d.next.length ≤ 8
  f40 : d.final.length ≤ 40
  r100 : ∀ r ∈ d.next, r.length ≤ 100
theorem Sh.b1 {d : DFA} (h : Sh d) : d.next.length < 9223372036854775807 := by have := h.n8; omega
theorem Sh.b2 {d : DFA} (h : Sh d) : ∀ r ∈ d.next, r.length < 9223372036854775807 := fun r hr => by have := h.r100 r hr; omega
theorem Sh.b3 {d : DFA} (h : Sh d) : d.final.length < 9223372036854775807 := by have := h.f40; omega
theorem Sh.mul {a b : DFA} (ha : Sh a) (hb : Sh b) : a.next.length * b.next.length ≤ 64 := Nat.mul_le_mul ha.n8 hb.n8
theorem Sh.has {d : DFA} (h : Sh d) (hv : Valid d) : HasL d.vars 8 d (acc d) := HasL.of hv h.n8
theorem HasL.wrong {v : Int} {n m : Nat} {a b : DFA} {p q : List Nat → Bool} (ha : HasL v n a p) (hb : HasL v m b q) : wrongD a b = 0 := wrongD_zero.2 ⟨ha.valid, hb.valid, by rw [ha.vars, hb.vars]⟩
theorem HasL.le {v : Int} {n m : Nat} {a : DFA} {p : List Nat → Bool} (ha : HasL v n a p) (h : a.next.length ≤ m) : HasL v m a p := ⟨ha.valid, h, ha.vars, ha.acc⟩
end Go.Lx


namespace Go.Lx
open Go.RowKit
set_option linter.unusedVariables false
theorem HasL.v6 {v : Int} {n : Nat} {d : DFA} {p : List Nat → Bool} (h : HasL v n d p) : 2 ^ v.toNat ≤ 64 := by
  have := h.valid.width; rw [h.vars] at this; exact this
theorem WdV.lt {v : Int} {w : List Nat} (h : WdV v w) (h6 : 2 ^ v.toNat ≤ 64) : ∀ x ∈ w, x < 64 := fun x hx => by have := h x hx; omega
theorem LeastA.lt {m : DFA} (hm : Valid m) (hn : m.next.length + 1 ≤ 4096) {u : List Nat} (h : LeastA m (some u)) : u.length ≤ m.next.length := by
  have hs := stay_valid hm.v0 hm.v6 false
  have hd : ∀ w, Wd m w → (dst (both m (stayD m.vars false)) m.start.toNat m.next.length w ↔ acc m w = true) := fun w hw => by
    have h1 := both_dst (a := m) (b := stayD m.vars false) hm hs rfl hw
    rw [show m.next.length + (stayD m.vars false).start.toNat = m.next.length from rfl] at h1
    rw [h1, stay_acc hm.v0 hm.v6 false (show Wd (stayD m.vars false) w from hw)]
    cases acc m w <;> simp
  obtain ⟨h1, h2, h3⟩ := h
  have hT : Tell (both m (stayD m.vars false)) m.start.toNat m.next.length (some u) := ⟨h1, (hd u h1).2 h2, fun x hx hxd => h3 x hx ((hd x hx).1 hxd)⟩
  have hlen := both_len m (stayD m.vars false)
  have h1' : (stayD m.vars false).next.length = 1 := rfl
  have := Tell.lt (both_valid hm hs rfl hn) (by rw [hlen]; have := start_lt hm.toVal; omega) (by rw [hlen]; omega) hT
  omega
end Go.Lx


namespace Go.Lx
open Go.RowKit
set_option linter.unusedVariables false
structure InL (z d : DFA) (p : List Nat → Bool) : Prop where
  has : HasL z.vars z.next.length d p
  det : Det z d
theorem InL.fac {z d : DFA} {p : List Nat → Bool} (h : InL z d p) : Fac z p := h.det.fac h.has
theorem InL.order {z a b : DFA} {p q : List Nat → Bool} {f : Bool → Bool → Bool} (hz : Valid z) (ha : InL z a p) (hb : InL z b q) : (order (prodD f a b)).length ≤ z.next.length :=
  pr_order_factW ha.has.valid.toVal hb.has.valid.toVal (by rw [ha.has.vars, hb.has.vars]) hz.toVal ha.has.vars.symm ha.det hb.det
theorem InL.op {z a b : DFA} {p q : List Nat → Bool} {f : Bool → Bool → Bool} (hz : Valid z) (ha : InL z a p) (hb : InL z b q) : MinL z.vars z.next.length (opD f a b) (fun w => f (p w) (q w)) ∧ InL z (opD f a b) (fun w => f (p w) (q w)) := by
  have hm := ha.has.opW hb.has (InL.order (f := f) hz ha hb) hz.n4
  exact ⟨hm, hm.toHasL, (ha.fac.op f hb.fac).det hm⟩
theorem InL.min {z d : DFA} {p : List Nat → Bool} (hz : Valid z) (h : InL z d p) : MinL z.vars z.next.length (minD d) p ∧ InL z (minD d) p :=
  ⟨h.has.minim, h.has.minim.toHasL, h.fac.det h.has.minim⟩
theorem InL.of {z d : DFA} (hz : Valid z) (hd : Valid d) (hv : z.vars = d.vars) (hl : d.next.length ≤ z.next.length) (h : Det z d) : InL z d (acc d) := ⟨⟨hd, hl, hv.symm, fun _ _ => rfl⟩, h⟩
def zP (v : Int) : List DFA → DFA
  | [] => stayD v true
  | d :: l => prodD andB d (zP v l)
def zN : List DFA → Nat
  | [] => 1
  | d :: l => d.next.length * zN l
theorem zP_ok {v : Int} (h0 : 0 ≤ v) (h6 : v ≤ 6) : ∀ {l : List DFA}, (∀ d ∈ l, Val d ∧ d.vars = v) → Val (zP v l) ∧ (zP v l).vars = v ∧ (zP v l).next.length = zN l ∧ ∀ d ∈ l, Det (zP v l) d ∧ d.next.length ≤ zN l
  | [], _ => ⟨(stay_valid h0 h6 true).toVal, rfl, rfl, fun d hd => by cases hd⟩
  | d :: l, h => by
    obtain ⟨hd, hdv⟩ := h d (by simp)
    obtain ⟨i1, i2, i3, i4⟩ := zP_ok h0 h6 (l := l) fun x hx => h x (by simp [hx])
    have hv : d.vars = (zP v l).vars := by rw [hdv, i2]
    obtain ⟨d1, d2⟩ := Det.prodL (f := andB) hd i1 hv
    have hn0 := i1.n0
    have hd0 := hd.n0
    refine ⟨prod_val hd i1 hv, hdv, by show (prodD andB d (zP v l)).next.length = _; rw [prod_len, i3]; rfl, fun x hx => ?_⟩
    rcases List.mem_cons.1 hx with rfl | hx
    · exact ⟨d1, Nat.le_mul_of_pos_right _ (by omega)⟩
    · obtain ⟨e1, e2⟩ := i4 x hx
      exact ⟨Det.trans (z := zP v (d :: l)) (y := zP v l) (by show d.vars = _; rw [hdv, i2]) d2 e1, Nat.le_trans e2 (Nat.le_mul_of_pos_left _ hd0)⟩
end Go.Lx


namespace Go.Lx
open Go.RowKit
set_option linter.unusedVariables false
abbrev cC (a g : DFA) (j k : DK) : List Value := [.int .i64 a.vars, .int .i64 a.start, .slice j.nb a.next.length j.nc, .slice j.fb a.final.length j.fc, .int .i64 g.vars, .int .i64 g.start, .slice k.nb g.next.length k.nc, .slice k.fb g.final.length k.fc]
abbrev cV (a g : DFA) (j k : DK) : Value := .agg (cC a g j k).toArray
abbrev bC (e : Value) (a g : DFA) (j k : DK) : List Value := e :: cC a g j k
def satD (a g : DFA) : DFA := opD orB g (notD a)
theorem InL.not {z a : DFA} {p : List Nat → Bool} (hz : Valid z) (ha : InL z a p) : MinL z.vars z.next.length (notD a) (fun w => !p w) ∧ InL z (notD a) (fun w => !p w) := InL.op (f := notB) hz ha ha
theorem InL.sat {z a g : DFA} {p q : List Nat → Bool} (hz : Valid z) (ha : InL z a p) (hg : InL z g q) : MinL z.vars z.next.length (satD a g) (fun w => q w || !p w) ∧ InL z (satD a g) (fun w => q w || !p w) := InL.op (f := orB) hz hg (InL.not hz ha).2
theorem InL.wrong {z a b : DFA} {p q : List Nat → Bool} (ha : InL z a p) (hb : InL z b q) : wrongD a b = 0 := wrongD_zero.2 ⟨ha.has.valid, hb.has.valid, by rw [ha.has.vars, hb.has.vars]⟩
theorem InL.ord {z a b : DFA} {p q : List Nat → Bool} {f : Bool → Bool → Bool} (hz : Valid z) (ha : InL z a p) (hb : InL z b q) : (Lx.order (prodD f a b)).length ≤ 4096 := Nat.le_trans (InL.order hz ha hb) hz.n4
theorem InL.bds {z d : DFA} {p : List Nat → Bool} (h : InL z d p) : d.next.length < 9223372036854775807 ∧ (∀ r ∈ d.next, r.length < 9223372036854775807) ∧ d.final.length < 9223372036854775807 := min_bounds h.has
end Go.Lx
namespace Go.Lx
def cE (a g : DFA) : Nat := if checkD a ≠ 0 then checkD a else if checkD g ≠ 0 then checkD g else if a.vars ≠ g.vars then 7 else 0
theorem cE_first {a g : DFA} (h : checkD a ≠ 0) : cE a g = checkD a := by unfold cE; rw [if_pos h]
theorem cE_second {a g : DFA} (h : checkD a = 0) (h2 : checkD g ≠ 0) : cE a g = checkD g := by unfold cE; rw [if_neg (by omega), if_pos h2]
theorem cE_vars {a g : DFA} (h : checkD a = 0) (h2 : checkD g = 0) (h3 : a.vars ≠ g.vars) : cE a g = 7 := by unfold cE; rw [if_neg (by omega), if_neg (by omega), if_pos h3]
theorem cE_ok {a g : DFA} (h : checkD a = 0) (h2 : checkD g = 0) (h3 : a.vars = g.vars) : cE a g = 0 := by unfold cE; rw [if_neg (by omega), if_neg (by omega), if_neg (fun h => h h3)]
end Go.Lx


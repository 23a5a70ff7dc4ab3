/- Contracts of functions of the program (Part, Bfs, CoreJ, Tell, Law, Law2, Mat, Ord, Gre, All, Facts, CoreK, CoreL, CoreM, CoreN, CoreP, CoreQ, CoreR, Kit, Check, Shelf, Str): what each call answers and that it leaves memory as it was. Conditions: those each theorem names. -/
import Derived.Test.YtdaapdamcekkgaaDoorDec
import Derived.Test.YtdaapdamcekkgaaDoorRows
import Derived.Maps.RangeRun
import Derived.Shelf.Strconv.Itoa1
import Derived.Test.YtdaapdamcekkgaaDoorProg
set_option linter.unusedSectionVars false
set_option linter.unusedSimpArgs false
set_option linter.unusedVariables false
set_option linter.unnecessarySimpa false
namespace Go.Lx
set_option linter.unusedVariables false
section
variable {α : Type} [DecidableEq α]
def ix (x : α) : List α → Nat
  | [] => 0
  | k :: ks => if x = k then 0 else ix x ks + 1
theorem ix_lt {x : α} : ∀ {ks : List α}, x ∈ ks → ix x ks < ks.length
  | k :: ks, h => by
    simp only [ix]
    split
    · simp
    · rename_i e
      have := ix_lt ((List.mem_cons.1 h).resolve_left e)
      simp; omega
theorem ix_get {x : α} : ∀ {ks : List α}, x ∈ ks → ks[ix x ks]? = some x
  | k :: ks, h => by
    simp only [ix]
    split
    · rename_i e; simp [e]
    · rename_i e
      simpa using ix_get ((List.mem_cons.1 h).resolve_left e)
theorem ix_inj {x y : α} {ks : List α} (hx : x ∈ ks) (hy : y ∈ ks) (h : ix x ks = ix y ks) : x = y := by
  have h1 := ix_get hx
  rw [h, ix_get hy] at h1
  exact (Option.some.inj h1).symm
theorem ix_append_left {x : α} {ms : List α} : ∀ {ks : List α}, x ∈ ks → ix x (ks ++ ms) = ix x ks
  | k :: ks, h => by
    simp only [List.cons_append, ix]
    split
    · rfl
    · rename_i e; rw [ix_append_left ((List.mem_cons.1 h).resolve_left e)]
theorem ix_append_right {x : α} {ms : List α} : ∀ {ks : List α}, x ∉ ks → ix x (ks ++ ms) = ks.length + ix x ms
  | [], _ => by simp
  | k :: ks, h => by
    simp only [List.mem_cons, not_or] at h
    simp only [List.cons_append, ix, h.1, if_false, ix_append_right h.2, List.length_cons]
    omega
def add (ks : List α) (k : α) : List α := if k ∈ ks then ks else ks ++ [k]
def dd (l : List α) : List α := l.foldl add []
theorem mem_add {ks : List α} {k x : α} : x ∈ add ks k ↔ x ∈ ks ∨ x = k := by
  unfold add
  split
  · rename_i h
    exact ⟨.inl, fun h' => h'.elim id (fun e => e ▸ h)⟩
  · simp
theorem add_nodup {ks : List α} {k : α} (h : ks.Nodup) : (add ks k).Nodup := by
  unfold add
  split
  · exact h
  · rename_i hk
    rw [List.nodup_append]
    refine ⟨h, by simp, fun a ha b hb e => ?_⟩
    simp at hb; subst hb; subst e; exact hk ha
theorem add_prefix (ks : List α) (k : α) : ks <+: add ks k := by
  unfold add
  split
  · exact List.prefix_refl _
  · exact List.prefix_append _ _
theorem foldl_prefix : ∀ (l ks : List α), ks <+: l.foldl add ks
  | [], ks => List.prefix_refl _
  | k :: l, ks => (add_prefix ks k).trans (foldl_prefix l (add ks k))
theorem dd_append (l m : List α) : dd (l ++ m) = m.foldl add (dd l) := by simp [dd]
theorem dd_snoc (l : List α) (k : α) : dd (l ++ [k]) = add (dd l) k := by simp [dd]
theorem mem_dd {l : List α} {x : α} : x ∈ dd l ↔ x ∈ l := by
  have : ∀ (l ks : List α), x ∈ l.foldl add ks ↔ x ∈ ks ∨ x ∈ l := by
    intro l
    induction l with
    | nil => intro ks; simp
    | cons k l ih => intro ks; rw [List.foldl_cons, ih, mem_add, List.mem_cons, or_assoc]
  rw [dd, this]; simp
theorem ix_prefix {ks ms : List α} (h : ks <+: ms) {x : α} (hx : x ∈ ks) : ix x ms = ix x ks := by
  obtain ⟨t, rfl⟩ := h
  exact ix_append_left hx
theorem look_zip {x : α} : ∀ (ks : List α) (i : Nat), lookL x (ks.zipIdx i) = if x ∈ ks then some (i + ix x ks) else none
  | [], i => by simp [lookL]
  | k :: ks, i => by
    simp only [List.zipIdx_cons, lookL]
    by_cases e : x = k
    · subst e; simp [ix]
    · rw [if_neg e, look_zip ks (i + 1)]
      by_cases h : x ∈ ks
      · simp [h, e, ix]; omega
      · simp [h, e]
theorem zipIdx_fst (ks : List α) (i : Nat) : (ks.zipIdx i).map Prod.fst = ks := by
  induction ks generalizing i with
  | nil => rfl
  | cons k ks ih => simp [List.zipIdx_cons]
end
def rowK (cs : List Nat) (r : List Int) : List Nat := r.map fun to => cs.getD to.toNat 0
def keyD (d : DFA) (cs : List Nat) (s : Nat) : List UInt8 := keyK (cs.getD s 0) (rowK cs (d.next.getD s []))
def keysD (d : DFA) (cs : List Nat) : List (List UInt8) := (List.range d.next.length).map (keyD d cs)
def refineF (d : DFA) (cs : List Nat) : List Nat := (keysD d cs).map fun k => ix k (dd (keysD d cs))
theorem cells8_snoc (l : List UInt8) : cells8 (l ++ [32]) = cells8 l ++ [Value.int .u8 32] := by simp
theorem keyK_step {a j : Nat} {l : List Nat} (hj : j < l.length) : keyK a (l.take (j + 1)) = keyK a (l.take j) ++ [32] ++ Lib.decDigits l[j] := by
  rw [List.take_succ_eq_append_getElem hj, keyK, keyK, tailK_append]; simp
theorem tailK_len : ∀ {l : List Nat}, (∀ x ∈ l, x < 100) → (tailK l).length ≤ 3 * l.length
  | [], _ => by simp [tailK]
  | a :: l, h => by
    have h1 := dec_len 1 a (by have := h a (by simp); omega)
    have h2 := tailK_len (l := l) (fun x hx => h x (by simp [hx]))
    simp only [tailK, List.length_cons, List.length_append]
    omega
theorem keyK_len {a : Nat} {l : List Nat} (ha : a < 100) (h : ∀ x ∈ l, x < 100) : (keyK a l).length ≤ 2 + 3 * l.length := by
  have h1 := dec_len 1 a (by omega)
  have h2 := tailK_len h
  simp only [keyK, List.length_append]
  omega
theorem keysD_take {d : DFA} {cs : List Nat} {k : Nat} (hk : k < d.next.length) : (keysD d cs).take (k + 1) = (keysD d cs).take k ++ [keyD d cs k] := by
  have hl : k < (keysD d cs).length := by simpa [keysD] using hk
  rw [List.take_succ_eq_append_getElem hl]
  simp [keysD]
theorem keyD_eq {d : DFA} {cs : List Nat} {k : Nat} (hk : k < d.next.length) (hc : k < cs.length) : keyD d cs k = keyK cs[k] (rowK cs d.next[k]) := by
  simp [keyD, hk, hc]
theorem rowK_lt {cs : List Nat} (h : ∀ x ∈ cs, x < 100) {r : List Int} : ∀ x ∈ rowK cs r, x < 100 := by
  intro x hx
  obtain ⟨to, _, rfl⟩ := List.mem_map.1 hx
  rw [List.getD_eq_getElem?_getD]
  cases e : cs[to.toNat]? with
  | none => simp
  | some y => exact h y (List.mem_of_getElem? e)
theorem dd_length {α : Type} [DecidableEq α] (l : List α) : (dd l).length ≤ l.length := by
  have : ∀ (l ks : List α), (l.foldl add ks).length ≤ ks.length + l.length := by
    intro l
    induction l with
    | nil => intro ks; simp
    | cons k l ih =>
      intro ks
      have h1 := ih (add ks k)
      have h2 : (add ks k).length ≤ ks.length + 1 := by unfold add; split <;> simp
      simp only [List.foldl_cons, List.length_cons]
      omega
  simpa [dd] using this l []
theorem keyD_mem {d : DFA} {cs : List Nat} {k s : Nat} (hs : s < k) (hk : k ≤ d.next.length) : keyD d cs s ∈ (keysD d cs).take k := by
  rw [keysD, ← List.map_take]
  refine List.mem_map_of_mem ?_
  rw [List.take_range]
  simp; omega
theorem rowK_length (cs : List Nat) (r : List Int) : (rowK cs r).length = r.length := List.length_map _
theorem rowK_get {cs : List Nat} {r : List Int} {j : Nat} (hj : j < r.length) (h : r[j].toNat < cs.length) : (rowK cs r)[j]'(by rw [rowK_length]; exact hj) = cs[r[j].toNat] := by
  simp [rowK, h]
theorem keyK_row {cs : List Nat} {r : List Int} {a j : Nat} (hj : j < r.length) (h : r[j].toNat < cs.length) : keyK a ((rowK cs r).take (j + 1)) = keyK a ((rowK cs r).take j) ++ [32] ++ Lib.decDigits cs[r[j].toNat] := by
  rw [keyK_step (by rw [rowK_length]; exact hj), rowK_get hj h]
def beginF (d : DFA) : List Nat := (List.range d.next.length).map fun s => if d.final.getD s false ≠ d.final.getD 0 false then 1 else 0
def itF (d : DFA) : Nat → List Nat
  | 0 => beginF d
  | i + 1 => refineF d (itF d i)
theorem itF_length (d : DFA) (i : Nat) : (itF d i).length = d.next.length := by
  cases i <;> simp [itF, beginF, refineF, keysD]
theorem refineF_lt {d : DFA} {cs : List Nat} {x : Nat} (h : x ∈ refineF d cs) : x < d.next.length := by
  obtain ⟨k, hk, rfl⟩ := List.mem_map.1 h
  have h1 := ix_lt (mem_dd.2 hk)
  have h2 := dd_length (keysD d cs)
  have h3 : (keysD d cs).length = d.next.length := by simp [keysD]
  omega
theorem itF_lt {d : DFA} (hn : d.next.length < 100) (i : Nat) : ∀ x ∈ itF d i, x < 100 := by
  cases i with
  | zero =>
    intro x hx
    obtain ⟨s, _, rfl⟩ := List.mem_map.1 hx
    split <;> omega
  | succ i => intro x hx; have := refineF_lt hx; omega
theorem itF_stable {d : DFA} {i : Nat} (h : refineF d (itF d i) = itF d i) : ∀ m, i ≤ m → itF d m = itF d i := by
  intro m hm
  induction hm with
  | refl => rfl
  | step _ ih => rw [itF, ih, h]
def exN (tr : List UInt8 → Nat → List UInt8) (L : Nat) (start : List UInt8) : Nat → List (List UInt8)
  | 0 => [start]
  | s + 1 => ((List.range L).map (tr ((exN tr L start s).getD s []))).foldl add (exN tr L start s)
def exRow (tr : List UInt8 → Nat → List UInt8) (L : Nat) (ks : List (List UInt8)) (s : Nat) : List Int :=
  (List.range L).map fun x => ((ix (tr (ks.getD s []) x) ks : Nat) : Int)
theorem foldl_add_snoc {α : Type} [DecidableEq α] (f : Nat → α) (ks : List α) (x : Nat) : ((List.range (x + 1)).map f).foldl add ks = add (((List.range x).map f).foldl add ks) (f x) := by
  rw [List.range_succ, List.map_append, List.foldl_append]; rfl
theorem mem_foldl_add {α : Type} [DecidableEq α] {y : α} : ∀ (l ks : List α), y ∈ l.foldl add ks ↔ y ∈ ks ∨ y ∈ l
  | [], ks => by simp
  | k :: l, ks => by rw [List.foldl_cons, mem_foldl_add l, mem_add, List.mem_cons, or_assoc]
theorem prefix_getD {ks ms : List (List UInt8)} (h : ks <+: ms) {s : Nat} (hs : s < ks.length) : ms.getD s [] = ks.getD s [] := by
  obtain ⟨t, rfl⟩ := h
  rw [List.getD_eq_getElem?_getD, List.getD_eq_getElem?_getD, List.getElem?_append_left hs]
structure ExOk (tr : List UInt8 → Nat → List UInt8) (L : Nat) (ks : List (List UInt8)) (s : Nat) (rs : List (List Int)) : Prop where
  len : rs.length = s
  le : s ≤ ks.length
  row : ∀ i, i < s → rs[i]? = some (exRow tr L ks i)
  mem : ∀ i, i < s → ∀ x, x < L → tr (ks.getD i []) x ∈ ks
theorem exRow_prefix {tr : List UInt8 → Nat → List UInt8} {L : Nat} {ks ms : List (List UInt8)} (h : ks <+: ms) {s : Nat} (hs : s < ks.length) (hm : ∀ x, x < L → tr (ks.getD s []) x ∈ ks) : exRow tr L ms s = exRow tr L ks s := by
  unfold exRow
  apply List.map_congr_left
  intro x hx
  rw [prefix_getD h hs, ix_prefix h (hm x (List.mem_range.1 hx))]
theorem ExOk.snoc {tr : List UInt8 → Nat → List UInt8} {L : Nat} {ks ms : List (List UInt8)} {s : Nat} {rs : List (List Int)} {ys : List Int} (h : ExOk tr L ks s rs) (hp : ks <+: ms) (hs : s < ks.length) (hy : ys = exRow tr L ms s) (hm : ∀ x, x < L → tr (ms.getD s []) x ∈ ms) : ExOk tr L ms (s + 1) (rs ++ [ys]) := by
  have hle := hp.length_le
  refine ⟨by simp [h.len], by omega, fun i hi => ?_, fun i hi => ?_⟩
  · by_cases e : i = s
    · subst e; rw [List.getElem?_append_right (by rw [h.len]; exact Nat.le_refl _), h.len, hy]; simp
    · rw [List.getElem?_append_left (by rw [h.len]; omega), h.row i (by omega), exRow_prefix hp (by omega) (h.mem i (by omega))]
  · by_cases e : i = s
    · subst e; exact hm
    · intro x hx
      rw [prefix_getD hp (by omega)]
      exact hp.subset (h.mem i (by omega) x hx)
def undec (l : List UInt8) : Nat := l.foldl (fun a b => a * 10 + (b.toNat - 48)) 0
theorem undec_dec (u : Nat) : undec (Lib.decDigits u) = u := by
  induction u using Nat.strongRecOn with
  | _ u ih =>
    by_cases h : u < 10
    · rw [dec_small h]
      show 0 * 10 + ((UInt8.ofNat (48 + u)).toNat - 48) = u
      rw [digit_toNat h]; omega
    · rw [dec_big h, undec, List.foldl_append]
      have := ih (u / 10) (by omega)
      rw [undec] at this
      rw [this]
      show u / 10 * 10 + ((UInt8.ofNat (48 + u % 10)).toNat - 48) = u
      rw [digit_toNat (by omega)]; omega
def toN (d : DFA) (o x : Nat) : Nat := ((d.next.getD o []).getD x 0).toNat
def trD (d : DFA) (k : List UInt8) (x : Nat) : List UInt8 := Lib.decDigits (toN d (undec k) x)
def sucs (d : DFA) (o : Nat) : List Nat := (List.range (2 ^ d.vars.toNat)).map (toN d o)
def bfsN (d : DFA) : Nat → List Nat
  | 0 => [d.start.toNat]
  | s + 1 => if s < (bfsN d s).length then (sucs d ((bfsN d s).getD s 0)).foldl add (bfsN d s) else bfsN d s
def order (d : DFA) : List Nat := bfsN d d.next.length
def renum (d : DFA) : DFA where
  vars := d.vars
  start := 0
  next := (order d).map fun o => (sucs d o).map fun t => ((ix t (order d) : Nat) : Int)
  final := (order d).map fun o => d.final.getD o false
theorem Valid.toN_lt {d : DFA} (hv : Valid d) {o x : Nat} (ho : o < d.next.length) (hx : x < 2 ^ d.vars.toNat) : toN d o x < d.next.length ∧ ∃ h : o < d.next.length, ∃ hx' : x < d.next[o].length, d.next[o][x] = (toN d o x : Int) := by
  have hl : d.next[o].length = 2 ^ d.vars.toNat := hv.len _ (List.getElem_mem ho)
  have hx' : x < d.next[o].length := by omega
  have h1 := hv.ok _ (List.getElem_mem ho) _ (List.getElem_mem hx')
  have e : toN d o x = d.next[o][x].toNat := by simp [toN, ho, hx']
  exact ⟨by omega, ho, hx', by omega⟩
theorem nodup_bound : ∀ {n : Nat} {l : List Nat}, l.Nodup → (∀ x ∈ l, x < n) → l.length ≤ n
  | 0, l, _, hb => by
    cases l with
    | nil => simp
    | cons a l => exact absurd (hb a (by simp)) (by omega)
  | n + 1, l, h, hb => by
    by_cases hn : n ∈ l
    · have h1 := nodup_bound (n := n) (h.erase n) fun x hx => by
        have := (List.Nodup.mem_erase_iff h).1 hx
        have := hb x this.2
        omega
      rw [List.length_erase_of_mem hn] at h1
      omega
    · have := nodup_bound (n := n) h fun x hx => by
        have := hb x hx
        have : x ≠ n := fun e => hn (e ▸ hx)
        omega
      omega
theorem map_add {α β : Type} [DecidableEq α] [DecidableEq β] {f : α → β} (hf : ∀ a b, f a = f b → a = b) (ks : List α) (k : α) : (add ks k).map f = add (ks.map f) (f k) := by
  unfold add
  by_cases h : k ∈ ks
  · rw [if_pos h, if_pos (List.mem_map_of_mem h)]
  · rw [if_neg h, if_neg (fun hh => by obtain ⟨a, ha, e⟩ := List.mem_map.1 hh; exact h (hf _ _ e ▸ ha))]
    simp
theorem map_foldl_add {α β : Type} [DecidableEq α] [DecidableEq β] {f : α → β} (hf : ∀ a b, f a = f b → a = b) : ∀ (l ks : List α), (l.foldl add ks).map f = (l.map f).foldl add (ks.map f)
  | [], ks => rfl
  | k :: l, ks => by rw [List.foldl_cons, map_foldl_add hf l, map_add hf, List.map_cons, List.foldl_cons]
theorem exN_bfs (d : DFA) : ∀ (N : Nat), (∀ i, i < N → i < (exN (trD d) (2 ^ d.vars.toNat) (Lib.decDigits d.start.toNat) i).length) →
    exN (trD d) (2 ^ d.vars.toNat) (Lib.decDigits d.start.toNat) N = (bfsN d N).map Lib.decDigits
  | 0, _ => rfl
  | N + 1, h => by
    have ih := exN_bfs d N fun i hi => h i (by omega)
    have hN := h N (by omega)
    rw [ih, List.length_map] at hN
    rw [exN, ih, bfsN, if_pos hN, map_foldl_add dec_inj]
    congr 1
    rw [sucs, List.map_map]
    apply List.map_congr_left
    intro x _
    have e : ((bfsN d N).map Lib.decDigits).getD N [] = Lib.decDigits ((bfsN d N).getD N 0) := by
      simp [hN]
    rw [e, trD, undec_dec]; rfl
theorem bfsN_stable {d : DFA} {N : Nat} (h : (bfsN d N).length = N) : ∀ m, N ≤ m → bfsN d m = bfsN d N := by
  intro m hm
  induction hm with
  | refl => rfl
  | @step m hm ih =>
    have hm' : N ≤ m := hm
    rw [bfsN, ih, if_neg (by omega)]
theorem order_eq {d : DFA} {N : Nat} (h : (bfsN d N).length = N) (hn : N ≤ d.next.length) : order d = bfsN d N := bfsN_stable h _ hn
theorem dec_ix (os : List Nat) (t : Nat) : ix (Lib.decDigits t) (os.map Lib.decDigits) = ix t os := by
  induction os with
  | nil => rfl
  | cons o os ih =>
    simp only [List.map_cons, ix, ih]
    by_cases e : t = o
    · simp [e]
    · rw [if_neg e, if_neg (fun h => e (dec_inj _ _ h))]
theorem map_dec_inj : ∀ {a b : List Nat}, a.map Lib.decDigits = b.map Lib.decDigits → a = b
  | [], [], _ => rfl
  | [], _ :: _, h => by simp at h
  | _ :: _, [], h => by simp at h
  | x :: a, y :: b, h => by
    simp only [List.map_cons, List.cons.injEq] at h
    rw [dec_inj x y h.1, map_dec_inj h.2]
theorem ren_order {d : DFA} {os : List Nat} {N : Nat} (hen : ∀ i, i < N → i < (exN (trD d) (2 ^ d.vars.toNat) (Lib.decDigits d.start.toNat) i).length)
    (hks : exN (trD d) (2 ^ d.vars.toNat) (Lib.decDigits d.start.toNat) N = os.map Lib.decDigits) (hlen : (exN (trD d) (2 ^ d.vars.toNat) (Lib.decDigits d.start.toNat) N).length = N) (hle : os.length ≤ d.next.length) : os = order d ∧ os.length = N := by
  have h1 : os.length = N := by rw [← hlen, hks, List.length_map]
  have h2 : os = bfsN d N := map_dec_inj (by rw [← hks, exN_bfs d N hen])
  exact ⟨by rw [order_eq (N := N) (by rw [← h2]; exact h1) (by omega)]; exact h2, h1⟩
theorem ren_next {d : DFA} {os : List Nat} {N : Nat} {rs : List (List Int)} (hks : exN (trD d) (2 ^ d.vars.toNat) (Lib.decDigits d.start.toNat) N = os.map Lib.decDigits) (hE : ExOk (trD d) (2 ^ d.vars.toNat) (exN (trD d) (2 ^ d.vars.toNat) (Lib.decDigits d.start.toNat) N) N rs) (ho : os = order d) (hN : os.length = N) : rs = (renum d).next := by
  apply List.ext_getElem?
  intro i
  by_cases hi : i < N
  · rw [hE.row i hi, hks]
    have hi' : i < os.length := by omega
    have e : (os.map Lib.decDigits).getD i [] = Lib.decDigits os[i] := by simp [hi']
    simp only [renum, List.getElem?_map, ← ho, List.getElem?_eq_getElem hi', Option.map_some, exRow, e, trD, undec_dec, sucs, List.map_map]
    refine congrArg some (List.map_congr_left fun x _ => ?_)
    simp only [Function.comp_def, dec_ix]
  · rw [List.getElem?_eq_none (by rw [hE.len]; omega), List.getElem?_eq_none (by simp [renum, ← ho]; omega)]
def quoN (d : DFA) (cs : List Nat) : Nat → List (List Int) × List Bool
  | 0 => ([], [])
  | k + 1 => if cs.getD k 0 < (quoN d cs k).1.length then quoN d cs k else
      ((quoN d cs k).1 ++ [(rowK cs (d.next.getD k [])).map fun c : Nat => (c : Int)], (quoN d cs k).2 ++ [d.final.getD k false])
def quo (d : DFA) (cs : List Nat) : DFA where
  vars := d.vars
  start := ((cs.getD d.start.toNat 0 : Nat) : Int)
  next := (quoN d cs d.next.length).1
  final := (quoN d cs d.next.length).2
theorem quoN_len (d : DFA) (cs : List Nat) : ∀ k, (quoN d cs k).1.length = (quoN d cs k).2.length ∧ (quoN d cs k).1.length ≤ k
  | 0 => by simp [quoN]
  | k + 1 => by
    have ih := quoN_len d cs k
    rw [quoN]
    split
    · exact ⟨ih.1, by omega⟩
    · simp; omega
end Go.Lx


namespace Go.Lx
set_option linter.unusedVariables false
theorem snocInd {α : Type} {p : List α → Prop} (h0 : p []) (h1 : ∀ l x, p l → p (l ++ [x])) : ∀ l, p l := fun l => by
  rw [← List.reverse_reverse l]
  generalize l.reverse = m
  induction m with
  | nil => exact h0
  | cons a m ih => rw [List.reverse_cons]; exact h1 _ _ ih
abbrev letN (d : DFA) : Nat := 2 ^ d.vars.toNat
def runN (d : DFA) (s : Nat) (w : List Nat) : Nat := w.foldl (toN d) s
def finN (d : DFA) (s : Nat) : Bool := d.final.getD s false
def dst (d : DFA) (s t : Nat) (w : List Nat) : Prop := finN d (runN d s w) ≠ finN d (runN d t w)
def Wd (d : DFA) (w : List Nat) : Prop := ∀ x ∈ w, x < letN d
def code (w : List Nat) : Nat := w.foldl (fun a x => a * 65 + (x + 1)) 0
theorem code_snoc (w : List Nat) (x : Nat) : code (w ++ [x]) = code w * 65 + (x + 1) := by simp [code]
theorem runN_snoc (d : DFA) (s : Nat) (w : List Nat) (x : Nat) : runN d s (w ++ [x]) = toN d (runN d s w) x := by simp [runN]
theorem code_inj : ∀ (w u : List Nat), (∀ x ∈ w, x < 64) → (∀ x ∈ u, x < 64) → code w = code u → w = u := by
  refine snocInd ?_ ?_
  · refine snocInd (fun _ _ _ => rfl) ?_
    intro u y _ _ _ h
    rw [code_snoc] at h
    exact absurd h (by simp [code])
  · intro w x ih
    refine snocInd ?_ ?_
    · intro _ _ h
      rw [code_snoc] at h
      exact absurd h (by simp [code])
    · intro u y _ hw hu h
      rw [code_snoc, code_snoc] at h
      have hx := hw x (by simp)
      have hy := hu y (by simp)
      have e : x = y := by omega
      have := ih u (fun z hz => hw z (by simp [hz])) (fun z hz => hu z (by simp [hz])) (by omega)
      rw [this, e]
theorem code_len : ∀ (w u : List Nat), (∀ x ∈ w, x < 64) → (∀ x ∈ u, x < 64) → code w ≤ code u → w.length ≤ u.length := by
  refine snocInd (fun u _ _ _ => by simp) ?_
  intro w x ih
  refine snocInd ?_ ?_
  · intro _ _ h
    rw [code_snoc] at h
    simp [code] at h
  · intro u y _ hw hu h
    rw [code_snoc, code_snoc] at h
    have hx := hw x (by simp)
    have hy := hu y (by simp)
    have := ih u (fun z hz => hw z (by simp [hz])) (fun z hz => hu z (by simp [hz])) (by omega)
    simpa using this
structure IsLeast (d : DFA) (s t : Nat) (w : List Nat) : Prop where
  wd : Wd d w
  dst : dst d s t w
  le : ∀ u, Wd d u → Lx.dst d s t u → code w ≤ code u
def Tell (d : DFA) (s t : Nat) : Option (List Nat) → Prop
  | some w => IsLeast d s t w
  | none => ∀ u, Wd d u → ¬ dst d s t u
theorem Valid.wd64 {d : DFA} (hv : Valid d) {w : List Nat} (h : Wd d w) : ∀ x ∈ w, x < 64 := fun x hx => by
  have := h x hx; have := hv.width; unfold letN at *; omega
theorem Tell.unique {d : DFA} (hv : Valid d) {s t : Nat} {a b : Option (List Nat)} (ha : Tell d s t a) (hb : Tell d s t b) : a = b := by
  cases a with
  | none =>
    cases b with
    | none => rfl
    | some w => exact absurd hb.dst (ha w hb.wd)
  | some u =>
    cases b with
    | none => exact absurd ha.dst (hb u ha.wd)
    | some w =>
      have h1 := ha.le w hb.wd hb.dst
      have h2 := hb.le u ha.wd ha.dst
      rw [code_inj u w (hv.wd64 ha.wd) (hv.wd64 hb.wd) (by omega)]
abbrev Stp := (Nat × Nat) × List Nat
def suc2 (d : DFA) (p : Nat × Nat) (x : Nat) : Nat × Nat := (toN d p.1 x, toN d p.2 x)
def pushS (d : DFA) (q : Stp) (a : List Stp) (x : Nat) : List Stp := if suc2 d q.1 x ∈ a.map Prod.fst then a else a ++ [(suc2 d q.1 x, q.2 ++ [x])]
def pushN (d : DFA) (q : Stp) (a : List Stp) : Nat → List Stp
  | 0 => a
  | x + 1 => pushS d q (pushN d q a x) x
def bq (d : DFA) (s t : Nat) : Nat → List Stp
  | 0 => [((s, t), [])]
  | i + 1 => pushN d ((bq d s t i).getD i ((0, 0), [])) (bq d s t i) (letN d)
structure BfsI (d : DFA) (s t i : Nat) (A : List Stp) : Prop where
  run : ∀ q ∈ A, Wd d q.2 ∧ q.1 = (runN d s q.2, runN d t q.2)
  mono : ∀ (j k : Nat) (qj qk : Stp), j < k → A[j]? = some qj → A[k]? = some qk → code qj.2 < code qk.2
  nd : (A.map Prod.fst).Nodup
  suc : ∀ j q, j < i → A[j]? = some q → ∀ x, x < letN d → ∃ q' ∈ A, q'.1 = suc2 d q.1 x ∧ code q'.2 ≤ code q.2 * 65 + (x + 1)
  top : ∀ q, A[i]? = some q → ∀ q' ∈ A, code q'.2 < code q.2 * 65 + 1
  first : ∃ q, A[0]? = some q ∧ q.1 = (s, t) ∧ q.2 = []
theorem BfsI.zero (d : DFA) (s t : Nat) : BfsI d s t 0 (bq d s t 0) := by
  refine ⟨?_, ?_, by simp [bq], fun j q h => absurd h (by omega), ?_, ⟨_, rfl, rfl, rfl⟩⟩
  · intro q hq
    simp only [bq, List.mem_singleton] at hq
    subst hq
    exact ⟨fun x hx => by simp at hx, rfl⟩
  · intro j k qj qk hjk _ hk
    simp only [bq] at hk
    have : k = 0 := by
      cases k with
      | zero => rfl
      | succ k => simp at hk
    omega
  · intro q hq q' hq'
    simp only [bq, List.mem_singleton] at hq'
    subst hq'
    simp [code]
structure BfsM (d : DFA) (s t i : Nat) (q : Stp) (x : Nat) (A : List Stp) : Prop where
  run : ∀ q ∈ A, Wd d q.2 ∧ q.1 = (runN d s q.2, runN d t q.2)
  mono : ∀ (j k : Nat) (qj qk : Stp), j < k → A[j]? = some qj → A[k]? = some qk → code qj.2 < code qk.2
  nd : (A.map Prod.fst).Nodup
  suc : ∀ j q, j < i → A[j]? = some q → ∀ x, x < letN d → ∃ q' ∈ A, q'.1 = suc2 d q.1 x ∧ code q'.2 ≤ code q.2 * 65 + (x + 1)
  suci : ∀ y, y < x → ∃ q' ∈ A, q'.1 = suc2 d q.1 y ∧ code q'.2 ≤ code q.2 * 65 + (y + 1)
  top : ∀ q' ∈ A, code q'.2 < code q.2 * 65 + (x + 1)
  at_ : A[i]? = some q
  first : ∃ q, A[0]? = some q ∧ q.1 = (s, t) ∧ q.2 = []
theorem BfsM.step {d : DFA} {s t i : Nat} {q : Stp} {x : Nat} {A : List Stp} (h : BfsM d s t i q x A) (hx : x < letN d) : BfsM d s t i q (x + 1) (pushS d q A x) := by
  have hq := List.mem_of_getElem? h.at_
  unfold pushS
  split
  · rename_i hin
    obtain ⟨q', hq', e⟩ := List.mem_map.1 hin
    refine ⟨h.run, h.mono, h.nd, h.suc, fun y hy => ?_, fun q' hq' => by have := h.top q' hq'; omega, h.at_, h.first⟩
    by_cases ey : y = x
    · subst ey; exact ⟨q', hq', e, by have := h.top q' hq'; omega⟩
    · exact h.suci y (by omega)
  · rename_i hout
    have hil : i < A.length := by have := List.getElem?_eq_some_iff.1 h.at_; exact this.1
    refine ⟨?_, ?_, ?_, ?_, ?_, ?_, ?_, ?_⟩
    · intro p hp
      rcases List.mem_append.1 hp with hp | hp
      · exact h.run p hp
      · simp only [List.mem_singleton] at hp
        subst hp
        obtain ⟨h1, h2⟩ := h.run q hq
        refine ⟨?_, ?_⟩
        · intro y hy
          rcases List.mem_append.1 hy with hy | hy
          · exact h1 y hy
          · simp only [List.mem_singleton] at hy; subst hy; exact hx
        · rw [runN_snoc, runN_snoc]; simp only [suc2, h2]
    · intro j k qj qk hjk hj hk
      by_cases ek : k < A.length
      · rw [List.getElem?_append_left (by omega)] at hj
        rw [List.getElem?_append_left ek] at hk
        exact h.mono j k qj qk hjk hj hk
      · rw [List.getElem?_append_right (by omega)] at hk
        have ek0 : k - A.length = 0 := by
          cases e : k - A.length with
          | zero => rfl
          | succ m => rw [e] at hk; simp at hk
        rw [ek0] at hk
        simp at hk
        subst hk
        rw [List.getElem?_append_left (by omega)] at hj
        show code qj.2 < code (q.2 ++ [x])
        rw [code_snoc]
        exact h.top qj (List.mem_of_getElem? hj)
    · rw [List.map_append, List.nodup_append]
      refine ⟨h.nd, by simp, fun a ha b hb e => ?_⟩
      simp at hb; subst hb; subst e; exact hout ha
    · intro j qj hj hq x hx
      rw [List.getElem?_append_left (by omega)] at hq
      obtain ⟨q', h1, h2⟩ := h.suc j qj hj hq x hx
      exact ⟨q', List.mem_append_left _ h1, h2⟩
    · intro y hy
      by_cases ey : y = x
      · subst ey; exact ⟨_, List.mem_append_right _ (List.mem_singleton.2 rfl), rfl, by rw [code_snoc]; exact Nat.le_refl _⟩
      · obtain ⟨q', h1, h2⟩ := h.suci y (by omega)
        exact ⟨q', List.mem_append_left _ h1, h2⟩
    · intro p hp
      rcases List.mem_append.1 hp with hp | hp
      · have := h.top p hp; omega
      · simp only [List.mem_singleton] at hp
        subst hp
        rw [code_snoc]; omega
    · rw [List.getElem?_append_left hil]; exact h.at_
    · obtain ⟨q0, h1, h2⟩ := h.first
      exact ⟨q0, by rw [List.getElem?_append_left (by omega)]; exact h1, h2⟩
theorem BfsI.mid {d : DFA} {s t i : Nat} {q : Stp} {A : List Stp} (h : BfsI d s t i A) (hq : A[i]? = some q) : ∀ x, x ≤ letN d → BfsM d s t i q x (pushN d q A x)
  | 0, _ => ⟨h.run, h.mono, h.nd, h.suc, fun y hy => absurd hy (by omega), h.top q hq, hq, h.first⟩
  | x + 1, hx => (BfsI.mid h hq x (by omega)).step (by omega)
theorem BfsI.step {d : DFA} (hv : Valid d) {s t i : Nat} {q : Stp} (h : BfsI d s t i (bq d s t i)) (hq : (bq d s t i)[i]? = some q) : BfsI d s t (i + 1) (bq d s t (i + 1)) := by
  have hm := h.mid hq (letN d) (Nat.le_refl _)
  have e : bq d s t (i + 1) = pushN d q (bq d s t i) (letN d) := by
    rw [bq, List.getD_eq_getElem?_getD, hq]; rfl
  rw [e]
  have hw := hv.width
  refine ⟨hm.run, hm.mono, hm.nd, ?_, ?_, hm.first⟩
  · intro j qj hj hqj x hx
    by_cases ej : j = i
    · subst ej
      rw [hm.at_] at hqj
      cases hqj
      exact hm.suci x hx
    · exact hm.suc j qj (by omega) hqj x hx
  · intro q2 hq2 q' hq'
    have h1 := hm.mono i (i + 1) q q2 (by omega) hm.at_ hq2
    have h2 := hm.top q' hq'
    have h3 : letN d ≤ 64 := hw
    omega
def BfsR (d : DFA) (s t : Nat) (res : Option (List Nat)) : Prop :=
  ∃ i, (∀ j, j < i → ∃ q, (bq d s t j)[j]? = some q ∧ finN d q.1.1 = finN d q.1.2) ∧
    match res with
    | some w => ∃ q, (bq d s t i)[i]? = some q ∧ finN d q.1.1 ≠ finN d q.1.2 ∧ q.2 = w
    | none => (bq d s t i).length ≤ i
theorem bq_inv {d : DFA} (hv : Valid d) {s t : Nat} : ∀ i, (∀ j, j < i → ∃ q, (bq d s t j)[j]? = some q ∧ finN d q.1.1 = finN d q.1.2) → BfsI d s t i (bq d s t i)
  | 0, _ => BfsI.zero d s t
  | i + 1, h => by
    obtain ⟨q, hq, _⟩ := h i (by omega)
    exact (bq_inv hv i fun j hj => h j (by omega)).step hv hq
theorem pushN_get {d : DFA} {q : Stp} {A : List Stp} {j : Nat} {p : Stp} (h : A[j]? = some p) : ∀ x, (pushN d q A x)[j]? = some p
  | 0 => h
  | x + 1 => by
    have ih := pushN_get (d := d) (q := q) h x
    rw [pushN, pushS]
    split
    · exact ih
    · rw [List.getElem?_append_left (List.getElem?_eq_some_iff.1 ih).1]; exact ih
theorem bq_get {d : DFA} {s t j : Nat} {p : Stp} {k i : Nat} (h : (bq d s t k)[j]? = some p) (hki : k ≤ i) : (bq d s t i)[j]? = some p := by
  induction hki with
  | refl => exact h
  | step _ ih => rw [bq]; exact pushN_get ih _
theorem BfsR.tell {d : DFA} (hv : Valid d) {s t : Nat} {res : Option (List Nat)} (h : BfsR d s t res) : Tell d s t res := by
  obtain ⟨i, hj, hr⟩ := h
  have hI := bq_inv hv i hj
  have hsame : ∀ j q, j < i → (bq d s t i)[j]? = some q → finN d q.1.1 = finN d q.1.2 := fun j q hji hq => by
    obtain ⟨q', h1, h2⟩ := hj j hji
    have := bq_get (i := i) h1 (by omega)
    rw [hq] at this; cases this; exact h2
  have key : ∀ u, Wd d u → (∃ q ∈ bq d s t i, q.1 = (runN d s u, runN d t u) ∧ code q.2 ≤ code u) ∨ ∃ q, (bq d s t i)[i]? = some q ∧ code q.2 ≤ code u := by
    refine snocInd ?_ ?_
    · intro _
      obtain ⟨q, h1, h2, h3⟩ := hI.first
      exact .inl ⟨q, List.mem_of_getElem? h1, h2, by rw [h3]; exact Nat.le_refl _⟩
    · intro u x ih hw
      rw [code_snoc]
      rcases ih (fun z hz => hw z (by simp [hz])) with ⟨q, h1, h2, h3⟩ | ⟨q, h1, h3⟩
      · obtain ⟨j, hjq⟩ := List.getElem?_of_mem h1
        by_cases hji : j < i
        · obtain ⟨q', g1, g2, g3⟩ := hI.suc j q hji hjq x (hw x (by simp))
          refine .inl ⟨q', g1, ?_, by omega⟩
          rw [g2, runN_snoc, runN_snoc, h2]; rfl
        · by_cases e : j = i
          · subst e; exact .inr ⟨q, hjq, by omega⟩
          · have hil : i < (bq d s t i).length := by have := (List.getElem?_eq_some_iff.1 hjq).1; omega
            have := hI.mono i j _ q (by omega) (List.getElem?_eq_getElem hil) hjq
            exact .inr ⟨_, List.getElem?_eq_getElem hil, by omega⟩
      · exact .inr ⟨q, h1, by omega⟩
  cases res with
  | some w =>
    obtain ⟨q, hq, hf, rfl⟩ := hr
    obtain ⟨h1, h2⟩ := hI.run q (List.mem_of_getElem? hq)
    refine ⟨h1, ?_, ?_⟩
    · unfold dst; rw [h2] at hf; exact hf
    · intro u hu hd
      rcases key u hu with ⟨p, g1, g2, g3⟩ | ⟨p, g1, g3⟩
      · obtain ⟨j, hjp⟩ := List.getElem?_of_mem g1
        by_cases hji : j < i
        · have := hsame j p hji hjp
          rw [g2] at this; exact absurd this hd
        · by_cases e : j = i
          · subst e; rw [hq] at hjp; cases hjp; exact g3
          · have := hI.mono i j q p (by omega) hq hjp
            omega
      · rw [hq] at g1; cases g1; exact g3
  | none =>
    intro u hu hd
    have hlen : (bq d s t i).length ≤ i := hr
    rcases key u hu with ⟨p, g1, g2, g3⟩ | ⟨p, g1, g3⟩
    · obtain ⟨j, hjp⟩ := List.getElem?_of_mem g1
      have hji := (List.getElem?_eq_some_iff.1 hjp).1
      have := hsame j p (by omega) hjp
      rw [g2] at this; exact hd this
    · have := (List.getElem?_eq_some_iff.1 g1).1; omega
end Go.Lx


namespace Go.Lx
open Go.RowKit
section
variable {P : Program} {r : Option Nat} {base : World} {n : Nat} {ρ : Env} {O : List Item} {Q : Post}
theorem T.cut1 {x : Code} (K : Env → List Item → Prop) (h : T P r base n x (thn K Q) ρ O) (hk : ∀ ρ O, K ρ O → Q .normal ρ O) : T P r base n x Q ρ O :=
  h.mono fun e ρ O h => by cases e <;> first | exact hk ρ O h | exact h
variable {t : TypeId} {p : String} {af : Array Edge} {g : Option (Nat × Bool)} {dst : Option Nat}
theorem q_eqlNil {x y : Operand} {T E U : TypeId} {b : Option Addr} {n c : Nat} (hu : P.underlying T = some (.slice E)) (hx : ev ρ x = .slice b n c) (hy : ev ρ y = .slice none 0 0) : QT P base ⟨dst, .binOp .eql T x y U, t, p, af, g⟩ ρ O (.bool b.isNone) := fun w _ => by
  have h : (Op.equal T (.slice b n c) (.slice none 0 0)).run P w = .ok b.isNone w := by
    show (Op.equalIn (9999 + 1) T _ _).run P w = _
    rw [Op.equalIn]
    cases b <;> simp [run_underlying' hu]
  simp [execOp, hx, hy, eqGuard, binOp, h]
theorem wrap8 {x : Nat} (h : x < 256) : IntKind.u8.wrap (x : Int) = (x : Int) := by
  simp only [IntKind.wrap, IntKind.signed, IntKind.bits]
  simp
  omega
end
end Go.Lx


namespace Go.Lx
open Go.RowKit
set_option linter.unusedVariables false
def cast2 (p : Nat × Nat) : Int × Int := ((p.1 : Int), (p.2 : Int))
theorem cast2_inj {p q : Nat × Nat} (h : cast2 p = cast2 q) : p = q := by
  obtain ⟨a, b⟩ := p
  obtain ⟨c, e⟩ := q
  simp only [cast2, Prod.mk.injEq] at h ⊢
  omega
abbrev seenL (A : List Stp) : List ((Int × Int) × Bool) := A.map fun q => (cast2 q.1, true)
theorem look_seen (p : Nat × Nat) : ∀ A : List Stp, lookL (cast2 p) (seenL A) = if p ∈ A.map Prod.fst then some true else none
  | [] => by simp [lookL]
  | q :: A => by
    have ih := look_seen p A
    show (if cast2 p = cast2 q.1 then some true else lookL (cast2 p) (seenL A)) = _
    rw [ih]
    by_cases e : p = q.1
    · subst e; simp
    · rw [if_neg (fun h => e (cast2_inj h))]
      have hm : p ∈ (q :: A).map Prod.fst ↔ p ∈ A.map Prod.fst := by
        rw [List.map_cons, List.mem_cons]
        exact ⟨fun h => h.resolve_left e, .inr⟩
      by_cases h : p ∈ A.map Prod.fst
      · rw [if_pos h, if_pos (hm.2 h)]
      · rw [if_neg h, if_neg (fun hh => h (hm.1 hh))]
theorem look_seenV (p : Nat × Nat) (A : List Stp) : ((lookL (cast2 p) (seenL A)).map Value.bool).getD (.bool false) = .bool (decide (p ∈ A.map Prod.fst)) := by
  rw [look_seen]
  by_cases h : p ∈ A.map Prod.fst
  · rw [if_pos h, decide_eq_true h]; rfl
  · rw [if_neg h, decide_eq_false h]; rfl
theorem seen_fresh {p : Nat × Nat} {A : List Stp} (h : p ∉ A.map Prod.fst) : cast2 p ∉ (seenL A).map Prod.fst := by
  intro hh
  rw [List.map_map] at hh
  obtain ⟨q, hq, e⟩ := List.mem_map.1 hh
  exact h (List.mem_map.2 ⟨q, hq, cast2_inj e⟩)
structure QRec where
  p : Nat × Nat
  b : Option Addr
  c : Nat
  xs : List Nat
def QRec.cells (q : QRec) : List Value := [.int .i64 ((q.p.1 : Nat) : Int), .int .i64 ((q.p.2 : Nat) : Int), .slice q.b q.xs.length q.c]
def QRec.itm (E : TypeId) (q : QRec) : Item := rowI q.b q.c E 1 (byts q.xs)
def QRec.stp (q : QRec) : Stp := (q.p, q.xs)
abbrev qcells (rs : List QRec) : List Value := rs.flatMap QRec.cells
abbrev qitms (E : TypeId) (rs : List QRec) : List Item := rs.map (QRec.itm E)
theorem qcells_len : ∀ rs : List QRec, (qcells rs).length = rs.length * 3
  | [] => rfl
  | q :: rs => by
    have := qcells_len rs
    simp only [qcells] at this
    simp only [qcells, List.flatMap_cons, List.length_append, this, List.length_cons, QRec.cells, List.length_nil]
    omega
theorem runN_lt {d : DFA} (hv : Valid d) {s : Nat} (hs : s < d.next.length) : ∀ w, Wd d w → runN d s w < d.next.length := by
  refine snocInd (fun _ => hs) ?_
  intro w x ih hw
  rw [runN_snoc]
  exact (hv.toN_lt (ih fun y hy => hw y (by simp [hy])) (hw x (by simp))).1
theorem pairs_bound {n : Nat} {A : List Stp} (hnd : (A.map Prod.fst).Nodup) (hb : ∀ q ∈ A, q.1.1 < n ∧ q.1.2 < n) : A.length ≤ n * n := by
  have h := nodup_bound (n := n * n) (l := A.map fun q => q.1.1 * n + q.1.2) ?_ ?_
  · simpa using h
  · have hinj : ∀ a ∈ A.map Prod.fst, ∀ b ∈ A.map Prod.fst, a.1 * n + a.2 = b.1 * n + b.2 → a = b := by
      intro a ha b hb' e
      obtain ⟨qa, hqa, rfl⟩ := List.mem_map.1 ha
      obtain ⟨qb, hqb, rfl⟩ := List.mem_map.1 hb'
      obtain ⟨a1, a2⟩ := hb qa hqa
      obtain ⟨b1, b2⟩ := hb qb hqb
      have h1 : qa.1.1 = qb.1.1 := by
        have up : ∀ u v : Nat, u < v → u * n + n ≤ v * n := fun u v h => by
          have := Nat.mul_le_mul_right n (show u + 1 ≤ v from h)
          rwa [Nat.add_mul, Nat.one_mul] at this
        rcases Nat.lt_trichotomy qa.1.1 qb.1.1 with h | h | h
        · have := up _ _ h; omega
        · exact h
        · have := up _ _ h; omega
      have h2 : qa.1.2 = qb.1.2 := by rw [h1] at e; omega
      exact Prod.ext h1 h2
    have key : ∀ l : List (Nat × Nat), l.Nodup → (∀ a ∈ l, ∀ b ∈ l, a.1 * n + a.2 = b.1 * n + b.2 → a = b) → (l.map fun q => q.1 * n + q.2).Nodup := by
      intro l
      induction l with
      | nil => intro _ _; exact List.nodup_nil
      | cons a l ih =>
        intro hn hi
        obtain ⟨h1, h2⟩ := List.nodup_cons.1 hn
        rw [List.map_cons, List.nodup_cons]
        refine ⟨fun hm => ?_, ih h2 fun x hx y hy => hi x (by simp [hx]) y (by simp [hy])⟩
        obtain ⟨y, hy, e⟩ := List.mem_map.1 hm
        have := hi a (by simp) y (by simp [hy]) e.symm
        exact h1 (this ▸ hy)
    have := key _ hnd hinj
    rwa [List.map_map] at this
  · intro x hx
    obtain ⟨q, hq, rfl⟩ := List.mem_map.1 hx
    obtain ⟨h1, h2⟩ := hb q hq
    have : q.1.1 * n + n ≤ n * n := by
      have := Nat.mul_le_mul_right n (show q.1.1 + 1 ≤ n from h1)
      rwa [Nat.add_mul, Nat.one_mul] at this
    show q.1.1 * n + q.1.2 < n * n
    omega
theorem pushN_wlen {d : DFA} {q : Stp} {m : Nat} (hq : q.2.length ≤ m) {A : List Stp} (h : ∀ r ∈ A, r.2.length ≤ m) : ∀ x, ∀ r ∈ pushN d q A x, r.2.length ≤ m + 1
  | 0, r, hr => by have := h r hr; omega
  | x + 1, r, hr => by
    rw [pushN, pushS] at hr
    split at hr
    · exact pushN_wlen hq h x r hr
    · rcases List.mem_append.1 hr with hr | hr
      · exact pushN_wlen hq h x r hr
      · rw [List.mem_singleton.1 hr]; simp; omega
theorem bq_wlen (d : DFA) (s t : Nat) : ∀ i, ∀ r ∈ bq d s t i, r.2.length ≤ i
  | 0, r, hr => by simp only [bq, List.mem_singleton] at hr; subst hr; simp
  | i + 1, r, hr => by
    rw [bq] at hr
    refine pushN_wlen ?_ (bq_wlen d s t i) _ r hr
    rw [List.getD_eq_getElem?_getD]
    cases e : (bq d s t i)[i]? with
    | none => simp
    | some p => exact bq_wlen d s t i p (List.mem_of_getElem? e)
theorem mid_ok {d : DFA} (hv : Valid d) {s t i : Nat} (hs : s < d.next.length) (ht : t < d.next.length) {q : Stp} (hj : ∀ j, j < i → ∃ q, (bq d s t j)[j]? = some q ∧ finN d q.1.1 = finN d q.1.2) (hq : (bq d s t i)[i]? = some q) {x : Nat} (hx : x ≤ letN d) :
    (pushN d q (bq d s t i) x).length ≤ d.next.length * d.next.length ∧ q.1.1 < d.next.length ∧ q.1.2 < d.next.length ∧ q.2.length ≤ i ∧ i < d.next.length * d.next.length ∧ i < (pushN d q (bq d s t i) x).length := by
  have hm := (bq_inv hv i hj).mid hq x hx
  have hb : ∀ r ∈ pushN d q (bq d s t i) x, r.1.1 < d.next.length ∧ r.1.2 < d.next.length := fun r hr => by
    obtain ⟨h1, h2⟩ := hm.run r hr
    rw [h2]; exact ⟨runN_lt hv hs _ h1, runN_lt hv ht _ h1⟩
  have hl := pairs_bound hm.nd hb
  have hil := (List.getElem?_eq_some_iff.1 hm.at_).1
  have := hb q (List.mem_of_getElem? hm.at_)
  exact ⟨hl, this.1, this.2, bq_wlen d s t i q (List.mem_of_getElem? hq), by omega, hil⟩
theorem bq_succ {d : DFA} {s t i : Nat} {q : Stp} (hq : (bq d s t i)[i]? = some q) : bq d s t (i + 1) = pushN d q (bq d s t i) (letN d) := by
  rw [bq, List.getD_eq_getElem?_getD, hq]; rfl
end Go.Lx
namespace Go.Lx
open Go.RowKit
def TellV (E : TypeId) (v : Value) (N : List Item) : Option (List Nat) → Prop
  | some u => ∃ b c, v = .tuple #[.slice b u.length c, .bool true, .int .i64 0] ∧ N = [rowI b c E 1 (byts u)]
  | none => v = .tuple #[.slice none 0 0, .bool false, .int .i64 0] ∧ N = []
end Go.Lx


namespace Go.Lx
set_option linter.unusedVariables false
section
variable {α β : Type} [DecidableEq α] [DecidableEq β]
def nrm (l : List α) : List Nat := l.map fun k => ix k (dd l)
theorem nrm_length (l : List α) : (nrm l).length = l.length := List.length_map _
theorem nrm_get {l : List α} {i : Nat} {a : α} (h : l[i]? = some a) : (nrm l)[i]? = some (ix a (dd l)) := by
  rw [nrm, List.getElem?_map, h]; rfl
theorem nrm_inj {l : List α} {i j : Nat} {a b : α} (hi : l[i]? = some a) (hj : l[j]? = some b) : (nrm l)[i]? = (nrm l)[j]? ↔ a = b := by
  rw [nrm_get hi, nrm_get hj]
  refine ⟨fun h => ix_inj (mem_dd.2 (List.mem_of_getElem? hi)) (mem_dd.2 (List.mem_of_getElem? hj)) (Option.some.inj h), fun h => h ▸ rfl⟩
theorem dd_mem_snoc {l : List α} {a : α} (h : a ∈ l) : dd (l ++ [a]) = dd l := by
  rw [dd_snoc, add, if_pos (mem_dd.2 h)]
theorem dd_new_snoc {l : List α} {a : α} (h : a ∉ l) : dd (l ++ [a]) = dd l ++ [a] := by
  rw [dd_snoc, add, if_neg (fun hh => h (mem_dd.1 hh))]
theorem nrm_pairs : ∀ zs : List (α × β), (∀ p ∈ zs, ∀ q ∈ zs, p.1 = q.1 ↔ p.2 = q.2) →
    (dd (zs.map Prod.fst)).length = (dd (zs.map Prod.snd)).length ∧ ∀ p ∈ zs, ix p.1 (dd (zs.map Prod.fst)) = ix p.2 (dd (zs.map Prod.snd)) := by
  refine snocInd (fun _ => ⟨rfl, fun p hp => by simp at hp⟩) ?_
  intro zs z ih h
  obtain ⟨h1, h2⟩ := ih fun p hp q hq => h p (List.mem_append_left _ hp) q (List.mem_append_left _ hq)
  have hz : z ∈ zs ++ [z] := by simp
  have hmem : z.1 ∈ zs.map Prod.fst ↔ z.2 ∈ zs.map Prod.snd := by
    constructor
    · intro hm
      obtain ⟨p, hp, e⟩ := List.mem_map.1 hm
      exact List.mem_map.2 ⟨p, hp, ((h p (List.mem_append_left _ hp) z hz).1 e)⟩
    · intro hm
      obtain ⟨p, hp, e⟩ := List.mem_map.1 hm
      exact List.mem_map.2 ⟨p, hp, ((h p (List.mem_append_left _ hp) z hz).2 e)⟩
  simp only [List.map_append, List.map_cons, List.map_nil]
  by_cases hm : z.1 ∈ zs.map Prod.fst
  · rw [dd_mem_snoc hm, dd_mem_snoc (hmem.1 hm)]
    refine ⟨h1, fun p hp => ?_⟩
    rcases List.mem_append.1 hp with hp | hp
    · exact h2 p hp
    · simp only [List.mem_singleton] at hp
      subst hp
      obtain ⟨q, hq, e⟩ := List.mem_map.1 hm
      have e2 := (h q (List.mem_append_left _ hq) p hz).1 e
      rw [← e, ← e2]; exact h2 q hq
  · have hm2 : z.2 ∉ zs.map Prod.snd := fun hh => hm (hmem.2 hh)
    rw [dd_new_snoc hm, dd_new_snoc hm2]
    refine ⟨by simp [h1], fun p hp => ?_⟩
    rcases List.mem_append.1 hp with hp | hp
    · rw [ix_append_left (mem_dd.2 (List.mem_map_of_mem hp)), ix_append_left (mem_dd.2 (List.mem_map_of_mem hp))]
      exact h2 p hp
    · simp only [List.mem_singleton] at hp
      subst hp
      rw [ix_append_right (fun hh => hm (mem_dd.1 hh)), ix_append_right (fun hh => hm2 (mem_dd.1 hh)), h1]
      simp [ix]
theorem dd_finer : ∀ zs : List (α × β), (∀ p ∈ zs, ∀ q ∈ zs, p.1 = q.1 → p.2 = q.2) →
    (dd (zs.map Prod.snd)).length ≤ (dd (zs.map Prod.fst)).length ∧ ((dd (zs.map Prod.snd)).length = (dd (zs.map Prod.fst)).length → ∀ p ∈ zs, ∀ q ∈ zs, p.2 = q.2 → p.1 = q.1) := by
  refine snocInd (fun _ => ⟨Nat.le_refl _, fun _ p hp => by simp at hp⟩) ?_
  intro zs z ih h
  obtain ⟨h1, h2⟩ := ih fun p hp q hq => h p (List.mem_append_left _ hp) q (List.mem_append_left _ hq)
  have hz : z ∈ zs ++ [z] := by simp
  simp only [List.map_append, List.map_cons, List.map_nil]
  by_cases hm : z.1 ∈ zs.map Prod.fst
  · obtain ⟨q, hq, e⟩ := List.mem_map.1 hm
    have e2 := h q (List.mem_append_left _ hq) z hz e
    have hm2 : z.2 ∈ zs.map Prod.snd := List.mem_map.2 ⟨q, hq, e2⟩
    rw [dd_mem_snoc hm, dd_mem_snoc hm2]
    refine ⟨h1, fun he p hp p' hp' ee => ?_⟩
    have h2' := h2 he
    have lift : ∀ p ∈ zs ++ [z], ∃ p0 ∈ zs, p0.1 = p.1 ∧ p0.2 = p.2 := fun p hp => by
      rcases List.mem_append.1 hp with hp | hp
      · exact ⟨p, hp, rfl, rfl⟩
      · simp only [List.mem_singleton] at hp; subst hp; exact ⟨q, hq, e, e2⟩
    obtain ⟨a, ha, a1, a2⟩ := lift p hp
    obtain ⟨b, hb, b1, b2⟩ := lift p' hp'
    rw [← a1, ← b1]; exact h2' a ha b hb (by rw [a2, b2, ee])
  · rw [dd_new_snoc hm]
    by_cases hm2 : z.2 ∈ zs.map Prod.snd
    · rw [dd_mem_snoc hm2]
      refine ⟨by simp; omega, fun he => ?_⟩
      simp at he; omega
    · rw [dd_new_snoc hm2]
      refine ⟨by simp; omega, fun he p hp p' hp' ee => ?_⟩
      have h2' := h2 (by simpa using he)
      rcases List.mem_append.1 hp with gp | gp
      · rcases List.mem_append.1 hp' with gp' | gp'
        · exact h2' p gp p' gp' ee
        · have e := List.mem_singleton.1 gp'
          exact (hm2 (List.mem_map.2 ⟨p, gp, by rw [ee, e]⟩)).elim
      · have e := List.mem_singleton.1 gp
        rcases List.mem_append.1 hp' with gp' | gp'
        · exact (hm2 (List.mem_map.2 ⟨p', gp', by rw [← ee, e]⟩)).elim
        · rw [e, List.mem_singleton.1 gp']
theorem zip_ends : ∀ {l : List α} {m : List β}, l.length = m.length → (l.zip m).map Prod.fst = l ∧ (l.zip m).map Prod.snd = m
  | [], [], _ => ⟨rfl, rfl⟩
  | a :: l, b :: m, h => by
    obtain ⟨h1, h2⟩ := zip_ends (l := l) (m := m) (by simpa using h)
    simp [h1, h2]
theorem zip_get {l : List α} {m : List β} (h : l.length = m.length) {p : α × β} (hp : p ∈ l.zip m) : ∃ i : Nat, l[i]? = some p.1 ∧ m[i]? = some p.2 := by
  obtain ⟨i, hi⟩ := List.getElem?_of_mem hp
  refine ⟨i, ?_, ?_⟩
  · have := congrArg (Option.map Prod.fst) hi
    rw [← List.getElem?_map, (zip_ends h).1] at this; simpa using this
  · have := congrArg (Option.map Prod.snd) hi
    rw [← List.getElem?_map, (zip_ends h).2] at this; simpa using this
theorem nrm_congr {l : List α} {m : List β} (hl : l.length = m.length) (h : ∀ (i j : Nat) (a b : α) (a' b' : β), l[i]? = some a → l[j]? = some b → m[i]? = some a' → m[j]? = some b' → (a = b ↔ a' = b')) : nrm l = nrm m ∧ (dd l).length = (dd m).length := by
  have h0 := nrm_pairs (l.zip m) fun p hp q hq => by
    obtain ⟨i, a1, a2⟩ := zip_get hl hp
    obtain ⟨j, b1, b2⟩ := zip_get hl hq
    exact h i j _ _ _ _ a1 b1 a2 b2
  rw [(zip_ends hl).1, (zip_ends hl).2] at h0
  refine ⟨?_, h0.1⟩
  apply List.ext_getElem?
  intro i
  by_cases hi : i < l.length
  · have hi2 : i < m.length := by omega
    rw [nrm_get (List.getElem?_eq_getElem hi), nrm_get (List.getElem?_eq_getElem hi2)]
    have : (l[i], m[i]) ∈ l.zip m := by
      apply List.mem_of_getElem? (i := i)
      rw [List.getElem?_zip_eq_some]
      exact ⟨List.getElem?_eq_getElem hi, List.getElem?_eq_getElem hi2⟩
    exact congrArg some (h0.2 _ this)
  · rw [List.getElem?_eq_none (by rw [nrm_length]; omega), List.getElem?_eq_none (by rw [nrm_length]; omega)]
end
def dif (d : DFA) : Nat → Nat → Nat → Bool
  | 0, s, t => finN d s != finN d t
  | k + 1, s, t => dif d k s t || (List.range (letN d)).any fun x => dif d k (toN d s x) (toN d t x)
theorem dif_iff (d : DFA) : ∀ k s t, dif d k s t = true ↔ ∃ u, Wd d u ∧ u.length ≤ k ∧ dst d s t u
  | 0, s, t => by
    simp only [dif, bne_iff_ne]
    constructor
    · exact fun h => ⟨[], fun x hx => by simp at hx, Nat.le_refl _, h⟩
    · rintro ⟨u, _, hl, h⟩
      have : u = [] := List.eq_nil_of_length_eq_zero (by omega)
      subst this; exact h
  | k + 1, s, t => by
    simp only [dif, Bool.or_eq_true, List.any_eq_true, List.mem_range, dif_iff d k]
    constructor
    · rintro (⟨u, h1, h2, h3⟩ | ⟨x, hx, u, h1, h2, h3⟩)
      · exact ⟨u, h1, by omega, h3⟩
      · refine ⟨x :: u, fun y hy => ?_, by simp; omega, h3⟩
        rcases List.mem_cons.1 hy with rfl | hy
        · exact hx
        · exact h1 y hy
    · rintro ⟨u, h1, h2, h3⟩
      cases u with
      | nil => exact .inl ⟨[], h1, by simp, h3⟩
      | cons x u => exact .inr ⟨x, h1 x (by simp), u, fun y hy => h1 y (by simp [hy]), by simpa using h2, h3⟩
theorem toN_get {d : DFA} (hv : Valid d) {s x : Nat} (hs : s < d.next.length) (hx : x < letN d) : toN d s x < d.next.length := (hv.toN_lt hs hx).1
theorem keyD_iff {d : DFA} (hv : Valid d) {cs : List Nat} (hcl : cs.length = d.next.length) {s t : Nat} (hs : s < d.next.length) (ht : t < d.next.length) :
    keyD d cs s = keyD d cs t ↔ cs.getD s 0 = cs.getD t 0 ∧ ∀ x, x < letN d → cs.getD (toN d s x) 0 = cs.getD (toN d t x) 0 := by
  have hls : (d.next.getD s []).length = letN d := by simp [hs]; exact hv.len _ (List.getElem_mem hs)
  have hlt : (d.next.getD t []).length = letN d := by simp [ht]; exact hv.len _ (List.getElem_mem ht)
  have row : ∀ s, (d.next.getD s []).length = letN d → ∀ x, x < letN d → (rowK cs (d.next.getD s []))[x]? = some (cs.getD (toN d s x) 0) := by
    intro s hl x hx
    have hx' : x < (d.next.getD s []).length := by omega
    have e : (d.next.getD s []).getD x 0 = (d.next.getD s [])[x] := by rw [List.getD_eq_getElem?_getD, List.getElem?_eq_getElem hx']; rfl
    rw [rowK, List.getElem?_map, List.getElem?_eq_getElem hx', toN, e]
    rfl
  constructor
  · intro h
    obtain ⟨h1, h2⟩ := keyK_inj h
    refine ⟨h1, fun x hx => ?_⟩
    have a := row s hls x hx
    rw [h2, row t hlt x hx] at a
    exact (Option.some.inj a).symm
  · rintro ⟨h1, h2⟩
    unfold keyD
    rw [h1]
    congr 1
    apply List.ext_getElem?
    intro x
    by_cases hx : x < letN d
    · rw [row s hls x hx, row t hlt x hx, h2 x hx]
    · rw [List.getElem?_eq_none (by rw [rowK_length]; omega), List.getElem?_eq_none (by rw [rowK_length]; omega)]
theorem refineF_nrm (d : DFA) (cs : List Nat) : refineF d cs = nrm (keysD d cs) := rfl
theorem keysD_get {d : DFA} {cs : List Nat} {s : Nat} (hs : s < d.next.length) : (keysD d cs)[s]? = some (keyD d cs s) := by simp [keysD, hs]
theorem beginF_get {d : DFA} {s : Nat} (hs : s < d.next.length) : (beginF d)[s]? = some (if finN d s ≠ finN d 0 then 1 else 0) := by
  simp [beginF, hs, finN]
theorem getD_of {l : List Nat} {i a : Nat} (h : l[i]? = some a) : l.getD i 0 = a := by rw [List.getD_eq_getElem?_getD, h]; rfl
theorem itF_iff {d : DFA} (hv : Valid d) : ∀ k s t, s < d.next.length → t < d.next.length → ((itF d k).getD s 0 = (itF d k).getD t 0 ↔ dif d k s t = false)
  | 0, s, t, hs, ht => by
    rw [itF, getD_of (beginF_get hs), getD_of (beginF_get ht), dif]
    cases finN d s <;> cases finN d t <;> cases finN d 0 <;> simp
  | k + 1, s, t, hs, ht => by
    have ih := itF_iff hv k
    rw [itF, refineF_nrm]
    have h1 := nrm_inj (keysD_get (cs := itF d k) hs) (keysD_get (cs := itF d k) ht)
    have e1 : (nrm (keysD d (itF d k))).getD s 0 = (nrm (keysD d (itF d k))).getD t 0 ↔ (nrm (keysD d (itF d k)))[s]? = (nrm (keysD d (itF d k)))[t]? := by
      rw [nrm_get (keysD_get hs), nrm_get (keysD_get ht), getD_of (nrm_get (keysD_get hs)), getD_of (nrm_get (keysD_get ht))]
      simp
    rw [e1, h1, keyD_iff hv (itF_length d k) hs ht, ih s t hs ht, dif, Bool.or_eq_false_iff]
    refine and_congr Iff.rfl ?_
    rw [List.any_eq_false]
    constructor
    · intro h x hx
      have hx' := List.mem_range.1 hx
      rw [Bool.not_eq_true, ← ih _ _ (toN_get hv hs hx') (toN_get hv ht hx')]
      exact h x hx'
    · intro h x hx
      rw [ih _ _ (toN_get hv hs hx) (toN_get hv ht hx), ← Bool.not_eq_true]
      exact h x (List.mem_range.2 hx)
end Go.Lx


namespace Go.Lx
set_option linter.unusedVariables false
section
variable {α : Type} [DecidableEq α]
theorem nrm_nrm (l : List α) : nrm (nrm l) = nrm l := by
  refine (nrm_congr (by rw [nrm_length]) ?_).1
  intro i j a b a' b' hi hj hi' hj'
  have := nrm_inj hi' hj'
  rw [hi, hj] at this
  simpa using this
def first (p : Nat → Bool) : Nat → Nat
  | 0 => 0
  | n + 1 => if first p n < n then first p n else if p n then n else n + 1
end
theorem foldl_add01 : ∀ (l : List Nat), (∀ x ∈ l, x ≤ 1) → l.foldl add [0, 1] = [0, 1] ∧ (l.foldl add [0] = [0] ∧ 1 ∉ l ∨ l.foldl add [0] = [0, 1] ∧ 1 ∈ l)
  | [], _ => by simp
  | x :: l, h => by
    obtain ⟨h1, h2⟩ := foldl_add01 l fun y hy => h y (by simp [hy])
    have hx := h x (by simp)
    have : x = 0 ∨ x = 1 := by omega
    rcases this with rfl | rfl
    · refine ⟨?_, ?_⟩
      · rw [List.foldl_cons, show add [0, 1] 0 = [0, 1] by decide]; exact h1
      · rw [List.foldl_cons, show add [0] 0 = [0] by decide]
        rcases h2 with ⟨a, b⟩ | ⟨a, b⟩
        · exact .inl ⟨a, by simp [b]⟩
        · exact .inr ⟨a, by simp [b]⟩
    · refine ⟨?_, ?_⟩
      · rw [List.foldl_cons, show add [0, 1] 1 = [0, 1] by decide]; exact h1
      · rw [List.foldl_cons, show add [0] 1 = [0, 1] by decide]
        exact .inr ⟨h1, by simp⟩
theorem nrm01 {l : List Nat} (h0 : l.headD 0 = 0) (h : ∀ x ∈ l, x ≤ 1) : nrm l = l := by
  cases l with
  | nil => rfl
  | cons a l =>
    simp at h0
    subst h0
    have e : dd (0 :: l) = l.foldl add [0] := by simp [dd, add]
    have h2 := (foldl_add01 l fun y hy => h y (by simp [hy])).2
    rw [nrm, e]
    conv => rhs; rw [← List.map_id (0 :: l)]
    apply List.map_congr_left
    intro x hx
    have hx1 := h x hx
    have : x = 0 ∨ x = 1 := by omega
    rcases this with rfl | rfl
    · rcases h2 with ⟨a, b⟩ | ⟨a, b⟩ <;> rw [a] <;> decide
    · rcases h2 with ⟨a, b⟩ | ⟨a, b⟩
      · simp at hx; exact absurd hx b
      · rw [a]; decide
theorem itF_can (d : DFA) : ∀ k, nrm (itF d k) = itF d k
  | 0 => by
    refine nrm01 ?_ ?_
    · rw [itF]
      cases e : (beginF d) with
      | nil => rfl
      | cons a l =>
        have : (beginF d)[0]? = some a := by rw [e]; rfl
        have hn : 0 < d.next.length := by
          have : (beginF d).length = d.next.length := by simp [beginF]
          rw [e] at this; simp at this; omega
        rw [beginF_get hn] at this
        simpa using this.symm
    · intro x hx
      obtain ⟨s, _, rfl⟩ := List.mem_map.1 hx
      split <;> omega
  | k + 1 => by rw [itF, refineF_nrm, nrm_nrm]
theorem dif_mono {d : DFA} {k m s t : Nat} (h : k ≤ m) (hd : dif d k s t = true) : dif d m s t = true := by
  obtain ⟨u, h1, h2, h3⟩ := (dif_iff d k s t).1 hd
  exact (dif_iff d m s t).2 ⟨u, h1, by omega, h3⟩
theorem itF_get {d : DFA} {k s : Nat} (hs : s < d.next.length) : (itF d k)[s]? = some ((itF d k).getD s 0) := by
  have : s < (itF d k).length := by rw [itF_length]; exact hs
  rw [List.getD_eq_getElem?_getD, List.getElem?_eq_getElem this]; rfl
def clsN (d : DFA) (k : Nat) : Nat := (dd (itF d k)).length
theorem clsN_step {d : DFA} (hv : Valid d) (k : Nat) : clsN d k ≤ clsN d (k + 1) ∧ (clsN d k = clsN d (k + 1) → itF d (k + 1) = itF d k) := by
  have hl : (itF d (k + 1)).length = (itF d k).length := by rw [itF_length, itF_length]
  have at_ : ∀ p ∈ (itF d (k + 1)).zip (itF d k), ∃ s, s < d.next.length ∧ (itF d (k + 1)).getD s 0 = p.1 ∧ (itF d k).getD s 0 = p.2 := fun p hp => by
    obtain ⟨i, a1, a2⟩ := zip_get hl hp
    refine ⟨i, ?_, getD_of a1, getD_of a2⟩
    have := (List.getElem?_eq_some_iff.1 a2).1
    rwa [itF_length] at this
  have h := dd_finer ((itF d (k + 1)).zip (itF d k)) fun p hp q hq e => by
    obtain ⟨s, hs, a1, a2⟩ := at_ p hp
    obtain ⟨t, ht, b1, b2⟩ := at_ q hq
    rw [← a1, ← b1, itF_iff hv _ s t hs ht] at e
    rw [← a2, ← b2, itF_iff hv _ s t hs ht, ← Bool.not_eq_true]
    intro hh
    rw [dif_mono (Nat.le_succ k) hh] at e; cases e
  rw [(zip_ends hl).1, (zip_ends hl).2] at h
  refine ⟨h.1, fun e => ?_⟩
  have h2 := h.2 e
  rw [← itF_can d (k + 1), ← itF_can d k]
  refine (nrm_congr hl ?_).1
  intro i j a b a' b' hi hj hi' hj'
  have hm : ∀ {i a a'}, (itF d (k + 1))[i]? = some a → (itF d k)[i]? = some a' → (a, a') ∈ (itF d (k + 1)).zip (itF d k) := fun {i a a'} x y => by
    apply List.mem_of_getElem? (i := i)
    rw [List.getElem?_zip_eq_some]
    exact ⟨x, y⟩
  refine ⟨fun e => ?_, h2 _ (hm hi hi') _ (hm hj hj')⟩
  have hin : i < d.next.length := by have := (List.getElem?_eq_some_iff.1 hi').1; rwa [itF_length] at this
  have hjn : j < d.next.length := by have := (List.getElem?_eq_some_iff.1 hj').1; rwa [itF_length] at this
  rw [← getD_of hi, ← getD_of hj, itF_iff hv _ i j hin hjn] at e
  rw [← getD_of hi', ← getD_of hj', itF_iff hv _ i j hin hjn, ← Bool.not_eq_true]
  intro hh
  rw [dif_mono (Nat.le_succ k) hh] at e; cases e
theorem clsN_le (d : DFA) (k : Nat) : clsN d k ≤ d.next.length := by
  have := dd_length (itF d k)
  rw [itF_length] at this; exact this
theorem clsN_pos {d : DFA} (hv : Valid d) (k : Nat) : 0 < clsN d k := by
  have h : (itF d k).getD 0 0 ∈ dd (itF d k) := mem_dd.2 (List.mem_of_getElem? (itF_get hv.n0))
  exact List.length_pos_of_mem h
theorem itF_grow {d : DFA} (hv : Valid d) : ∀ k, (∃ j, j < k ∧ itF d (j + 1) = itF d j) ∨ k + 1 ≤ clsN d k
  | 0 => .inr (clsN_pos hv 0)
  | k + 1 => by
    rcases itF_grow hv k with ⟨j, hj, h⟩ | h
    · exact .inl ⟨j, by omega, h⟩
    · obtain ⟨h1, h2⟩ := clsN_step hv k
      by_cases e : clsN d k = clsN d (k + 1)
      · exact .inl ⟨k, by omega, h2 e⟩
      · exact .inr (by omega)
theorem itF_stab {d : DFA} (hv : Valid d) : ∀ m, d.next.length ≤ m → itF d m = itF d d.next.length := by
  intro m hm
  rcases itF_grow hv d.next.length with ⟨j, hj, h⟩ | h
  · have hs : refineF d (itF d j) = itF d j := by rw [← itF]; exact h
    rw [itF_stable hs m (by omega), itF_stable hs d.next.length (by omega)]
  · have := clsN_le d d.next.length; omega
theorem cls_iff {d : DFA} (hv : Valid d) {s t : Nat} (hs : s < d.next.length) (ht : t < d.next.length) :
    (itF d d.next.length).getD s 0 = (itF d d.next.length).getD t 0 ↔ ∀ u, Wd d u → ¬ dst d s t u := by
  constructor
  · intro h u hu hd
    have h2 : (itF d (max u.length d.next.length)).getD s 0 = (itF d (max u.length d.next.length)).getD t 0 := by rw [itF_stab hv _ (by omega)]; exact h
    rw [itF_iff hv _ s t hs ht, ← Bool.not_eq_true] at h2
    exact h2 ((dif_iff d _ s t).2 ⟨u, hu, by omega, hd⟩)
  · intro h
    rw [itF_iff hv _ s t hs ht, ← Bool.not_eq_true]
    intro hh
    obtain ⟨u, h1, _, h3⟩ := (dif_iff d _ s t).1 hh
    exact h u h1 h3
theorem quoN_cls {d : DFA} {α : Type} [DecidableEq α] {l : List α} {cs : List Nat} (hl : l.length = d.next.length) (hcs : cs = nrm l) : ∀ k, k ≤ d.next.length → (quoN d cs k).1.length = (dd (l.take k)).length
  | 0, _ => by simp [quoN, dd]
  | k + 1, hk => by
    have hk' : k < l.length := by omega
    have ih := quoN_cls hl hcs k (by omega)
    have hg := List.getElem?_eq_getElem hk'
    have hc : cs.getD k 0 = ix l[k] (dd l) := by rw [hcs]; exact getD_of (nrm_get hg)
    have hp : dd (l.take k) <+: dd l := by
      conv => rhs; rw [← List.take_append_drop k l]
      rw [dd_append]; exact foldl_prefix _ _
    rw [quoN, ih, hc, List.take_succ_eq_append_getElem hk']
    by_cases hm : l[k] ∈ l.take k
    · rw [dd_mem_snoc hm, ix_prefix hp (mem_dd.2 hm), if_pos (ix_lt (mem_dd.2 hm)), ih]
    · have hp2 : dd (l.take k) ++ [l[k]] <+: dd l := by
        rw [← dd_new_snoc hm, ← List.take_succ_eq_append_getElem hk']
        conv => rhs; rw [← List.take_append_drop (k + 1) l]
        rw [dd_append]; exact foldl_prefix _ _
      have e : ix l[k] (dd l) = (dd (l.take k)).length := by
        rw [ix_prefix hp2 (by simp), ix_append_right (fun hh => hm (mem_dd.1 hh))]; simp [ix]
      rw [dd_new_snoc hm, e, if_neg (Nat.lt_irrefl _)]
      simp [ih]
theorem quoN_rows {d : DFA} (cs : List Nat) : ∀ k, ∀ r ∈ (quoN d cs k).1, ∃ s, s < k ∧ r = (rowK cs (d.next.getD s [])).map fun c : Nat => (c : Int)
  | 0, r, h => by simp [quoN] at h
  | k + 1, r, h => by
    rw [quoN] at h
    split at h
    · obtain ⟨s, hs, e⟩ := quoN_rows cs k r h; exact ⟨s, by omega, e⟩
    · rcases List.mem_append.1 h with h | h
      · obtain ⟨s, hs, e⟩ := quoN_rows cs k r h; exact ⟨s, by omega, e⟩
      · exact ⟨k, by omega, List.mem_singleton.1 h⟩
theorem quo_len {d : DFA} {cs : List Nat} (hl : cs.length = d.next.length) (hc : nrm cs = cs) : (quo d cs).next.length = (dd cs).length := by
  show (quoN d cs d.next.length).1.length = _
  rw [quoN_cls (l := cs) hl hc.symm _ (Nat.le_refl _), List.take_of_length_le (by omega)]
theorem can_lt {cs : List Nat} (hc : nrm cs = cs) {i c : Nat} (h : cs[i]? = some c) : c < (dd cs).length := by
  have h2 := nrm_get h
  rw [hc, h] at h2
  have := ix_lt (mem_dd.2 (List.mem_of_getElem? h))
  have e := Option.some.inj h2
  omega
theorem quo_valid {d : DFA} (hv : Valid d) {cs : List Nat} (hl : cs.length = d.next.length) (hc : nrm cs = cs) : Valid (quo d cs) := by
  have hq := quo_len hl hc
  have hlt : ∀ i, i < d.next.length → cs.getD i 0 < (dd cs).length := fun i hi => by
    have hi' : i < cs.length := by omega
    have := List.getElem?_eq_getElem hi'
    rw [getD_of this]; exact can_lt hc this
  have h1 := (quoN_len d cs d.next.length)
  refine ⟨hv.v0, hv.v6, ?_, ?_, ?_, ?_, ?_, ?_, ?_⟩
  · rw [hq]; have := hlt 0 hv.n0; omega
  · show (quoN d cs d.next.length).1.length ≤ _; have := hv.n4; omega
  · exact h1.1.symm
  · exact Int.natCast_nonneg _
  · rw [hq]
    show ((cs.getD d.start.toNat 0 : Nat) : Int) < _
    have := hlt d.start.toNat (by have := hv.s0; have := hv.s1; omega)
    omega
  · intro r hr
    obtain ⟨s, hs, rfl⟩ := quoN_rows cs _ r hr
    rw [List.length_map, rowK_length]
    simp [hs]
    exact hv.len _ (List.getElem_mem hs)
  · intro r hr x hx
    rw [hq]
    obtain ⟨s, hs, rfl⟩ := quoN_rows cs _ r hr
    obtain ⟨c, hc', rfl⟩ := List.mem_map.1 hx
    refine ⟨Int.natCast_nonneg _, ?_⟩
    obtain ⟨to, hto, rfl⟩ := List.mem_map.1 hc'
    simp [hs] at hto
    have := hv.ok _ (List.getElem_mem hs) to hto
    have := hlt to.toNat (by omega)
    omega
theorem quo_itF {d : DFA} (hv : Valid d) (k : Nat) : Valid (quo d (itF d k)) ∧ (quo d (itF d k)).next.length ≤ d.next.length :=
  ⟨quo_valid hv (itF_length d k) (itF_can d k), (quoN_len d _ _).2⟩
end Go.Lx


namespace Go.Lx
open Go.RowKit
set_option linter.unusedVariables false
structure BRec where
  b : Option Addr
  c : Nat
  xs : List Bool
def BRec.val (q : BRec) : Value := .slice q.b q.xs.length q.c
def BRec.itm (E : TypeId) (q : BRec) : Item := rowI q.b q.c E 1 (bools q.xs)
abbrev bvals (qs : List BRec) : List Value := qs.map BRec.val
def difRow (d : DFA) (k s : Nat) : List Bool := (List.range d.next.length).map (dif d k s)
def MatOk (d : DFA) (k m : Nat) (qs : List BRec) : Prop := qs.map BRec.xs = (List.range m).map (difRow d k)
theorem difRow_length (d : DFA) (k s : Nat) : (difRow d k s).length = d.next.length := by simp [difRow]
theorem MatOk.len {d : DFA} {k m : Nat} {qs : List BRec} (h : MatOk d k m qs) : qs.length = m := by
  have := congrArg List.length h
  simpa using this
theorem MatOk.get {d : DFA} {k m : Nat} {qs : List BRec} (h : MatOk d k m qs) {a : Nat} (ha : a < m) :
    ∃ q, q ∈ qs ∧ (bvals qs)[a]? = some (.slice q.b d.next.length q.c) ∧ (bools q.xs).length = d.next.length ∧ ∀ t, t < d.next.length → (bools q.xs)[t]? = some (.bool (dif d k a t)) := by
  have hl := h.len
  have ha' : a < qs.length := by omega
  have e : qs[a].xs = difRow d k a := by
    have := congrArg (fun l => l[a]?) h
    simp only [List.getElem?_map, List.getElem?_eq_getElem ha', Option.map_some, List.getElem?_range ha] at this
    exact Option.some.inj this
  refine ⟨qs[a], List.getElem_mem ha', ?_, ?_, ?_⟩
  · rw [List.getElem?_map, List.getElem?_eq_getElem ha', Option.map_some, BRec.val, e, difRow_length]
  · rw [List.length_map, e, difRow_length]
  · intro t ht
    rw [List.getElem?_map, e, difRow, List.getElem?_map, List.getElem?_range ht]; rfl
theorem MatOk.snoc {d : DFA} {k m : Nat} {qs : List BRec} (h : MatOk d k m qs) {b : Option Addr} {c : Nat} : MatOk d k (m + 1) (qs ++ [⟨b, c, difRow d k m⟩]) := by
  unfold MatOk at *
  rw [List.map_append, h, List.range_succ, List.map_append]; rfl
end Go.Lx


namespace Go.Lx
open Go.RowKit
set_option linter.unusedVariables false
theorem foldl_add_ok {n : Nat} : ∀ (l ks : List Nat), ks.Nodup → (∀ k ∈ ks, k < n) → (∀ k ∈ l, k < n) → (l.foldl add ks).Nodup ∧ ∀ k ∈ l.foldl add ks, k < n
  | [], ks, h1, h2, _ => ⟨h1, h2⟩
  | a :: l, ks, h1, h2, h3 => foldl_add_ok l (add ks a) (add_nodup h1) (fun k hk => (mem_add.1 hk).elim (h2 k) fun e => e ▸ h3 a (by simp)) fun k hk => h3 k (by simp [hk])
theorem sucs_lt {d : DFA} (hv : Valid d) {o : Nat} (ho : o < d.next.length) : ∀ t ∈ sucs d o, t < d.next.length := fun t ht => by
  obtain ⟨x, hx, rfl⟩ := List.mem_map.1 ht
  exact (hv.toN_lt ho (List.mem_range.1 hx)).1
theorem bfsN_ok {d : DFA} (hv : Valid d) : ∀ i, (bfsN d i).Nodup ∧ ∀ o ∈ bfsN d i, o < d.next.length
  | 0 => by
    refine ⟨by simp [bfsN], fun o ho => ?_⟩
    simp only [bfsN, List.mem_singleton] at ho
    have := hv.s0; have := hv.s1; omega
  | i + 1 => by
    obtain ⟨h1, h2⟩ := bfsN_ok hv i
    rw [bfsN]
    split
    · rename_i hi
      refine foldl_add_ok _ _ h1 h2 (sucs_lt hv (h2 _ ?_))
      rw [List.getD_eq_getElem?_getD, List.getElem?_eq_getElem hi]
      exact List.getElem_mem hi
    · exact ⟨h1, h2⟩
theorem bfsN_len {d : DFA} (hv : Valid d) (i : Nat) : (bfsN d i).length ≤ d.next.length := nodup_bound (bfsN_ok hv i).1 (bfsN_ok hv i).2
theorem bfsN_succ {d : DFA} {i o : Nat} (h : (bfsN d i)[i]? = some o) : bfsN d (i + 1) = (sucs d o).foldl add (bfsN d i) := by
  have hi := (List.getElem?_eq_some_iff.1 h).1
  rw [bfsN, if_pos hi, List.getD_eq_getElem?_getD, h]; rfl
def bfsM (d : DFA) (i o x : Nat) : List Nat := ((List.range x).map (toN d o)).foldl add (bfsN d i)
theorem bfsM_step (d : DFA) (i o x : Nat) : bfsM d i o (x + 1) = add (bfsM d i o x) (toN d o x) := foldl_add_snoc _ _ _
theorem order_len {d : DFA} (hv : Valid d) : (order d).length ≤ d.next.length := bfsN_len hv _
theorem order_stop {d : DFA} (hv : Valid d) : ∃ N, N ≤ d.next.length ∧ (bfsN d N).length = N ∧ (∀ j, j < N → j < (bfsN d j).length) := by
  have step : ∀ k, (∃ N, N ≤ k ∧ (bfsN d N).length = N ∧ ∀ j, j < N → j < (bfsN d j).length) ∨ ((∀ j, j < k → j < (bfsN d j).length) ∧ k ≤ (bfsN d k).length) := by
    intro k
    induction k with
    | zero => exact .inr ⟨fun j hj => absurd hj (by omega), Nat.zero_le _⟩
    | succ k ih =>
      rcases ih with ⟨N, h1, h2⟩ | ⟨h1, h2⟩
      · exact .inl ⟨N, by omega, h2⟩
      · by_cases e : (bfsN d k).length = k
        · exact .inl ⟨k, by omega, e, h1⟩
        · refine .inr ⟨fun j hj => ?_, ?_⟩
          · by_cases ej : j = k
            · subst ej; omega
            · exact h1 j (by omega)
          · have hi : k < (bfsN d k).length := by omega
            rw [bfsN_succ (List.getElem?_eq_getElem hi)]
            have := (foldl_prefix (sucs d (bfsN d k)[k]) (bfsN d k)).length_le
            omega
  rcases step d.next.length with h | ⟨h1, h2⟩
  · exact h
  · exact ⟨d.next.length, Nat.le_refl _, by have := bfsN_len hv d.next.length; omega, h1⟩
theorem bfsN_prefix (d : DFA) : ∀ (i m : Nat), i ≤ m → bfsN d i <+: bfsN d m := by
  intro i m h
  induction h with
  | refl => exact List.prefix_refl _
  | @step m _ ih =>
    refine ih.trans ?_
    rw [bfsN]
    split
    · exact foldl_prefix _ _
    · exact List.prefix_refl _
theorem order_closed {d : DFA} (hv : Valid d) : ∀ o ∈ order d, ∀ t ∈ sucs d o, t ∈ order d := by
  obtain ⟨N, hN, hl, hj⟩ := order_stop hv
  have e := order_eq hl hN
  intro o ho t ht
  rw [e] at ho ⊢
  obtain ⟨j, hjo⟩ := List.getElem?_of_mem ho
  have hjl := (List.getElem?_eq_some_iff.1 hjo).1
  have hjj := hj j (by omega)
  have hp := bfsN_prefix d j N (by omega)
  have hjo' : (bfsN d j)[j]? = some o := by
    obtain ⟨r, hr⟩ := hp
    rw [← hr, List.getElem?_append_left hjj] at hjo
    exact hjo
  have hp2 := bfsN_prefix d (j + 1) N (by omega)
  refine hp2.subset ?_
  rw [bfsN_succ hjo']
  exact (mem_foldl_add _ _).2 (.inr ht)
theorem sucs_length (d : DFA) (o : Nat) : (sucs d o).length = 2 ^ d.vars.toNat := by simp [sucs]
theorem sucs_get {d : DFA} {o x : Nat} (h : x < 2 ^ d.vars.toNat) : (sucs d o)[x]? = some (toN d o x) := by simp [sucs, h]
def renRow (d : DFA) (o : Nat) : List Nat := (sucs d o).map fun t => ix t (order d)
theorem renRow_length (d : DFA) (o : Nat) : (renRow d o).length = 2 ^ d.vars.toNat := by simp [renRow, sucs]
theorem renum_next (d : DFA) : (renum d).next = (order d).map fun o => (renRow d o).map fun x : Nat => (x : Int) := by
  simp [renum, renRow, Function.comp_def]
end Go.Lx


namespace Go.Lx
set_option linter.unusedVariables false
theorem dif_stab {d : DFA} (hv : Valid d) {s t : Nat} (hs : s < d.next.length) (ht : t < d.next.length) (m : Nat) (h : ∀ j, j ≤ d.next.length → dif d j s t = false) : dif d m s t = false := by
  by_cases hm : m ≤ d.next.length
  · exact h m hm
  · have h1 := (itF_iff hv d.next.length s t hs ht).2 (h _ (Nat.le_refl _))
    rw [← itF_iff hv m s t hs ht, itF_stab hv m (by omega)]
    exact h1
theorem tell_none {d : DFA} (hv : Valid d) {s t : Nat} (hs : s < d.next.length) (ht : t < d.next.length) (h : ∀ j, j ≤ d.next.length → dif d j s t = false) : Tell d s t none := by
  intro u hu hd
  have := dif_stab hv hs ht u.length h
  rw [(dif_iff d u.length s t).2 ⟨u, hu, Nat.le_refl _, hd⟩] at this
  cases this
end Go.Lx


namespace Go.Lx
open Go.RowKit
set_option linter.unusedVariables false
theorem CallT.addNil {P : Program} {base : World} {f : FuncId} {args : List Value} {O : List Item} {R : Value → List Item → Prop} (E : TypeId) (k : Nat) (h : CallT P base f args O R) : CallT P base f args O (fun v O' => ∃ O2, O' = rowI none 0 E k [] :: O2 ∧ R v O2) :=
  fun w M hI => (h w M hI).mono fun _ _ ⟨v, O', h1, h2, h3⟩ => ⟨v, _, h1, h2.nilRow E k, O', rfl, h3⟩
theorem CallT.nilOr {P : Program} {base : World} {f : FuncId} {args : List Value} {O : List Item} {R : Value → List Item → Prop} (E : TypeId) (k : Nat) (h : CallT P base f args O R) : CallT P base f args O (fun v O' => ∃ O2, ((O2 ≠ [] → O' = O2) ∧ (O2 = [] → O' = [rowI none 0 E k []])) ∧ R v O2) :=
  fun w M hI => (h w M hI).mono fun _ _ ⟨v, O', h1, h2, h3⟩ => by
    cases O' with
    | nil => exact ⟨v, _, h1, h2.nilRow E k, [], ⟨fun h => absurd rfl h, fun _ => rfl⟩, h3⟩
    | cons a l => exact ⟨v, _, h1, h2, a :: l, ⟨fun _ => rfl, fun h => by cases h⟩, h3⟩
theorem CallT.none {P : Program} {base : World} {f : FuncId} {args : List Value} {R : Value → List Item → Prop} (h : CallT P base f args [] R) : CallT P base f args [] (fun v O' => O' = [] ∧ ∃ O2, R v O2) :=
  fun w M hI => (h w M hI).mono fun _ _ ⟨v, O', h1, h2, h3⟩ => ⟨v, [], h1, by simpa using h2.subp (Sub.of (List.sublist_append_right O' M)), rfl, O', h3⟩
theorem allN {α : Type} {p : α → Prop} : ∀ q ∈ ([] : List α), p q := fun q h => by cases h
theorem allC {α : Type} {p : α → Prop} {a : α} {l : List α} (h1 : p a) (h2 : ∀ q ∈ l, p q) : ∀ q ∈ a :: l, p q := fun q h => by
  rcases List.mem_cons.1 h with rfl | h
  · exact h1
  · exact h2 q h
def minD (d : DFA) : DFA := renum (quo d (itF d d.next.length))
def minV (d : DFA) : DFA := if checkD d = 0 then minD d else ⟨0, 0, [], []⟩
def eD (d : DFA) (s t : Int) : Nat := if checkD d ≠ 0 then checkD d else if s < 0 ∨ t < 0 ∨ (d.next.length : Int) ≤ s ∨ (d.next.length : Int) ≤ t then 8 else 0
def TellA (d : DFA) (s t : Int) (res : Option (List Nat)) : Prop := if eD d s t = 0 then Tell d s.toNat t.toNat res else res = none
theorem eD_zero {d : DFA} {s t : Int} : eD d s t = 0 ↔ Valid d ∧ 0 ≤ s ∧ s < (d.next.length : Int) ∧ 0 ≤ t ∧ t < (d.next.length : Int) := by
  unfold eD
  by_cases h : checkD d = 0
  · rw [if_neg (by simp [h])]
    by_cases h2 : s < 0 ∨ t < 0 ∨ (d.next.length : Int) ≤ s ∨ (d.next.length : Int) ≤ t
    · rw [if_pos h2]; exact ⟨fun h => absurd h (by decide), fun h => by omega⟩
    · rw [if_neg h2]; exact ⟨fun _ => ⟨checkD_zero.1 h, by omega, by omega, by omega, by omega⟩, fun _ => rfl⟩
  · rw [if_pos h]; exact ⟨fun e => absurd e h, fun hh => absurd (checkD_zero.2 hh.1) h⟩
theorem TellA.unique {d : DFA} {s t : Int} {a b : Option (List Nat)} (ha : TellA d s t a) (hb : TellA d s t b) : a = b := by
  unfold TellA at *
  by_cases h : eD d s t = 0
  · rw [if_pos h] at ha hb
    exact Tell.unique (eD_zero.1 h).1 ha hb
  · rw [if_neg h] at ha hb
    rw [ha, hb]
theorem TellA.tell {d : DFA} {s t : Nat} {a : Option (List Nat)} (hv : Valid d) (hs : s < d.next.length) (ht : t < d.next.length) (ha : TellA d s t a) : Tell d s t a := by
  have h : eD d s t = 0 := eD_zero.2 ⟨hv, by omega, by omega, by omega, by omega⟩
  unfold TellA at ha
  rw [if_pos h] at ha
  exact ha
theorem TellA.none {d : DFA} {s t : Int} {a : Option (List Nat)} (h : eD d s t ≠ 0) (ha : TellA d s t a) : a = .none := by
  unfold TellA at ha; rwa [if_neg h] at ha
def DistV (E : TypeId) (d : DFA) (s t : Int) (v : Value) (N : List Item) : Prop :=
  ∃ res b c, TellA d s t res ∧ v = .tuple #[.slice b (res.getD []).length c, .bool res.isSome, .int .i64 (eD d s t : Int)] ∧ N = [rowI b c E 1 (byts (res.getD []))]
end Go.Lx


namespace Go.Proofs.YtdaapdamcekkgaaDoor
open Go.Lx Go.RowKit
theorem mixed : Tryd.prog.follows .mixedOrders = true := by kernel_rfl
theorem inf3 : Inf Tryd.prog 3 (.int .i64 0) 1 8 := by unfold Inf; kernel_rfl
theorem inf4 : Inf Tryd.prog 4 (.bool false) 1 1 := by unfold Inf; kernel_rfl
theorem inf5 : Inf Tryd.prog 5 (.int .u8 0) 1 1 := by unfold Inf; kernel_rfl
theorem inf22 : Inf Tryd.prog 22 ((.slice none 0 0)) 1 24 := by unfold Inf; kernel_rfl
theorem inf23 : Inf Tryd.prog 23 ((.slice none 0 0)) 1 24 := by unfold Inf; kernel_rfl
theorem inf25 : Inf Tryd.prog 25 ((.agg #[(.int .i64 0), (.int .i64 0), (.slice none 0 0), (.slice none 0 0)])) 4 64 := by unfold Inf; kernel_rfl
theorem inf29 : Inf Tryd.prog 29 (.int .i64 0) 1 8 := by unfold Inf; kernel_rfl
theorem inf35 : Inf Tryd.prog 35 ((.slice none 0 0)) 1 24 := by unfold Inf; kernel_rfl
theorem inf52 : Inf Tryd.prog 52 ((.slice none 0 0)) 1 24 := by unfold Inf; kernel_rfl
theorem inf79 : Inf Tryd.prog 79 (.pointer none) 1 8 := by unfold Inf; kernel_rfl
theorem inf86 : Inf Tryd.prog 86 ((.agg #[(.int .i64 0), (.int .i64 0)])) 2 16 := by unfold Inf; kernel_rfl
theorem inf87 : Inf Tryd.prog 87 ((.slice none 0 0)) 1 24 := by unfold Inf; kernel_rfl
theorem inf88 : Inf Tryd.prog 88 (.map none) 1 8 := by unfold Inf; kernel_rfl
theorem inf90 : Inf Tryd.prog 90 ((.agg #[(.int .i64 0), (.int .i64 0), (.slice none 0 0), (.slice none 0 0), (.int .i64 0), (.int .i64 0), (.slice none 0 0), (.slice none 0 0), (.slice none 0 0), (.map none)])) 10 160 := by unfold Inf; kernel_rfl
theorem inf98 : Inf Tryd.prog 98 ((.agg #[(.int .i64 0), (.int .i64 0), (.slice none 0 0), (.slice none 0 0)])) 4 64 := by unfold Inf; kernel_rfl
theorem inf108 : Inf Tryd.prog 108 ((.agg #[(.int .i64 0), (.int .i64 0)])) 2 16 := by unfold Inf; kernel_rfl
theorem inf111 : Inf Tryd.prog 111 ((.agg #[(.int .i64 0), (.int .i64 0), (.slice none 0 0)])) 3 40 := by unfold Inf; kernel_rfl
theorem inf123 : Inf Tryd.prog 123 (.map none) 1 8 := by unfold Inf; kernel_rfl
theorem inf125 : Inf Tryd.prog 125 (.nilFunc) 1 8 := by unfold Inf; kernel_rfl
theorem plan25 : Plan Tryd.prog 25 [(0, 1), (1, 1), (2, 1), (3, 1)] := ⟨_, Tryd.underlying25, fun w => by simp [run_sizeOf' inf3, run_sizeOf' inf22, run_sizeOf' inf23]⟩
theorem plan86 : Plan Tryd.prog 86 [(0, 1), (1, 1)] := ⟨_, Tryd.underlying86, fun w => by simp [run_sizeOf' inf3]⟩
theorem plan90 : Plan Tryd.prog 90 [(0, 4), (4, 4), (8, 1), (9, 1)] := ⟨_, Tryd.underlying90, fun w => by simp [run_sizeOf' inf25, run_sizeOf' inf87, run_sizeOf' inf88]⟩
theorem plan98 : Plan Tryd.prog 98 [(0, 4)] := ⟨_, Tryd.underlying98, fun w => by simp [run_sizeOf' inf25]⟩
theorem plan108 : Plan Tryd.prog 108 [(0, 1), (1, 1)] := ⟨_, Tryd.underlying108, fun w => by simp [run_sizeOf' inf3]⟩
theorem plan111 : Plan Tryd.prog 111 [(0, 2), (2, 1)] := ⟨_, Tryd.underlying111, fun w => by simp [run_sizeOf' inf35, run_sizeOf' inf108]⟩
theorem ent11 : Lx.Enters Tryd.prog 11 Tryd.f11 := ⟨Tryd.func11, by kernel_rfl, rfl⟩
theorem ent14 : Lx.Enters Tryd.prog 14 Tryd.f14 := ⟨Tryd.func14, by kernel_rfl, rfl⟩
theorem ent15 : Lx.Enters Tryd.prog 15 Tryd.f15 := ⟨Tryd.func15, by kernel_rfl, rfl⟩
theorem ent18 : Lx.Enters Tryd.prog 18 Tryd.f18 := ⟨Tryd.func18, by kernel_rfl, rfl⟩
theorem ent19 : Lx.Enters Tryd.prog 19 Tryd.f19 := ⟨Tryd.func19, by kernel_rfl, rfl⟩
theorem ent20 : Lx.Enters Tryd.prog 20 Tryd.f20 := ⟨Tryd.func20, by kernel_rfl, rfl⟩
theorem ent21 : Lx.Enters Tryd.prog 21 Tryd.f21 := ⟨Tryd.func21, by kernel_rfl, rfl⟩
theorem ent22 : Lx.Enters Tryd.prog 22 Tryd.f22 := ⟨Tryd.func22, by kernel_rfl, rfl⟩
theorem ent23 : Lx.Enters Tryd.prog 23 Tryd.f23 := ⟨Tryd.func23, by kernel_rfl, rfl⟩
theorem ent24 : Lx.Enters Tryd.prog 24 Tryd.f24 := ⟨Tryd.func24, by kernel_rfl, rfl⟩
theorem ent25 : Lx.Enters Tryd.prog 25 Tryd.f25 := ⟨Tryd.func25, by kernel_rfl, rfl⟩
theorem ent26 : Lx.Enters Tryd.prog 26 Tryd.f26 := ⟨Tryd.func26, by kernel_rfl, rfl⟩
theorem ent27 : Lx.Enters Tryd.prog 27 Tryd.f27 := ⟨Tryd.func27, by kernel_rfl, rfl⟩
theorem ent28 : Lx.Enters Tryd.prog 28 Tryd.f28 := ⟨Tryd.func28, by kernel_rfl, rfl⟩
theorem ent32 : Lx.Enters Tryd.prog 32 Tryd.f32 := ⟨Tryd.func32, by kernel_rfl, rfl⟩
theorem ent33 : Lx.Enters Tryd.prog 33 Tryd.f33 := ⟨Tryd.func33, by kernel_rfl, rfl⟩
theorem ent34 : Lx.Enters Tryd.prog 34 Tryd.f34 := ⟨Tryd.func34, by kernel_rfl, rfl⟩
theorem ent35 : Lx.Enters Tryd.prog 35 Tryd.f35 := ⟨Tryd.func35, by kernel_rfl, rfl⟩
theorem ent36 : Lx.Enters Tryd.prog 36 Tryd.f36 := ⟨Tryd.func36, by kernel_rfl, rfl⟩
theorem ent37 : Lx.Enters Tryd.prog 37 Tryd.f37 := ⟨Tryd.func37, by kernel_rfl, rfl⟩
theorem ent39 : Lx.Enters Tryd.prog 39 Tryd.f39 := ⟨Tryd.func39, by kernel_rfl, rfl⟩
theorem ent43 : Lx.Enters Tryd.prog 43 Tryd.f43 := ⟨Tryd.func43, by kernel_rfl, rfl⟩
theorem ent44 : Lx.Enters Tryd.prog 44 Tryd.f44 := ⟨Tryd.func44, by kernel_rfl, rfl⟩
theorem ent45 : Lx.Enters Tryd.prog 45 Tryd.f45 := ⟨Tryd.func45, by kernel_rfl, rfl⟩
theorem ent50 : Lx.Enters Tryd.prog 50 Tryd.f50 := ⟨Tryd.func50, by kernel_rfl, rfl⟩
theorem ent51 : Lx.Enters Tryd.prog 51 Tryd.f51 := ⟨Tryd.func51, by kernel_rfl, rfl⟩
theorem ent52 : Lx.Enters Tryd.prog 52 Tryd.f52 := ⟨Tryd.func52, by kernel_rfl, rfl⟩
theorem ent53 : Lx.Enters Tryd.prog 53 Tryd.f53 := ⟨Tryd.func53, by kernel_rfl, rfl⟩
theorem ent54 : Lx.Enters Tryd.prog 54 Tryd.f54 := ⟨Tryd.func54, by kernel_rfl, rfl⟩
theorem ent55 : Lx.Enters Tryd.prog 55 Tryd.f55 := ⟨Tryd.func55, by kernel_rfl, rfl⟩
theorem ent56 : Lx.Enters Tryd.prog 56 Tryd.f56 := ⟨Tryd.func56, by kernel_rfl, rfl⟩
theorem ent57 : Lx.Enters Tryd.prog 57 Tryd.f57 := ⟨Tryd.func57, by kernel_rfl, rfl⟩
theorem ent58 : Lx.Enters Tryd.prog 58 Tryd.f58 := ⟨Tryd.func58, by kernel_rfl, rfl⟩
theorem ent59 : Lx.Enters Tryd.prog 59 Tryd.f59 := ⟨Tryd.func59, by kernel_rfl, rfl⟩
theorem ent61 : Lx.Enters Tryd.prog 61 Tryd.f61 := ⟨Tryd.func61, by kernel_rfl, rfl⟩
theorem ent62 : Lx.Enters Tryd.prog 62 Tryd.f62 := ⟨Tryd.func62, by kernel_rfl, rfl⟩
theorem ent64 : Lx.Enters Tryd.prog 64 Tryd.f64 := ⟨Tryd.func64, by kernel_rfl, rfl⟩
theorem ent69 : Lx.Enters Tryd.prog 69 Tryd.f69 := ⟨Tryd.func69, by kernel_rfl, rfl⟩
theorem ent70 : Lx.Enters Tryd.prog 70 Tryd.f70 := ⟨Tryd.func70, by kernel_rfl, rfl⟩
theorem ent71 : Lx.Enters Tryd.prog 71 Tryd.f71 := ⟨Tryd.func71, by kernel_rfl, rfl⟩
theorem ent74 : Lx.Enters Tryd.prog 74 Tryd.f74 := ⟨Tryd.func74, by kernel_rfl, rfl⟩
theorem ent75 : Lx.Enters Tryd.prog 75 Tryd.f75 := ⟨Tryd.func75, by kernel_rfl, rfl⟩
theorem ent76 : Lx.Enters Tryd.prog 76 Tryd.f76 := ⟨Tryd.func76, by kernel_rfl, rfl⟩
theorem ent77 : Lx.Enters Tryd.prog 77 Tryd.f77 := ⟨Tryd.func77, by kernel_rfl, rfl⟩
theorem ent78 : Lx.Enters Tryd.prog 78 Tryd.f78 := ⟨Tryd.func78, by kernel_rfl, rfl⟩
theorem ent79 : Lx.Enters Tryd.prog 79 Tryd.f79 := ⟨Tryd.func79, by kernel_rfl, rfl⟩
theorem ent80 : Lx.Enters Tryd.prog 80 Tryd.f80 := ⟨Tryd.func80, by kernel_rfl, rfl⟩
theorem ent81 : Lx.Enters Tryd.prog 81 Tryd.f81 := ⟨Tryd.func81, by kernel_rfl, rfl⟩
theorem ent82 : Lx.Enters Tryd.prog 82 Tryd.f82 := ⟨Tryd.func82, by kernel_rfl, rfl⟩
theorem ent87 : Lx.Enters Tryd.prog 87 Tryd.f87 := ⟨Tryd.func87, by kernel_rfl, rfl⟩
theorem ent88 : Lx.Enters Tryd.prog 88 Tryd.f88 := ⟨Tryd.func88, by kernel_rfl, rfl⟩
theorem ent89 : Lx.Enters Tryd.prog 89 Tryd.f89 := ⟨Tryd.func89, by kernel_rfl, rfl⟩
theorem ent90 : Lx.Enters Tryd.prog 90 Tryd.f90 := ⟨Tryd.func90, by kernel_rfl, rfl⟩
theorem ent91 : Lx.Enters Tryd.prog 91 Tryd.f91 := ⟨Tryd.func91, by kernel_rfl, rfl⟩
theorem ent92 : Lx.Enters Tryd.prog 92 Tryd.f92 := ⟨Tryd.func92, by kernel_rfl, rfl⟩
theorem ent93 : Lx.Enters Tryd.prog 93 Tryd.f93 := ⟨Tryd.func93, by kernel_rfl, rfl⟩
theorem ent94 : Lx.Enters Tryd.prog 94 Tryd.f94 := ⟨Tryd.func94, by kernel_rfl, rfl⟩
theorem ent96 : Lx.Enters Tryd.prog 96 Tryd.f96 := ⟨Tryd.func96, by kernel_rfl, rfl⟩
theorem ent97 : Lx.Enters Tryd.prog 97 Tryd.f97 := ⟨Tryd.func97, by kernel_rfl, rfl⟩
theorem ent98 : Lx.Enters Tryd.prog 98 Tryd.f98 := ⟨Tryd.func98, by kernel_rfl, rfl⟩
theorem ent99 : Lx.Enters Tryd.prog 99 Tryd.f99 := ⟨Tryd.func99, by kernel_rfl, rfl⟩
theorem ent100 : Lx.Enters Tryd.prog 100 Tryd.f100 := ⟨Tryd.func100, by kernel_rfl, rfl⟩
theorem ent104 : Lx.Enters Tryd.prog 104 Tryd.f104 := ⟨Tryd.func104, by kernel_rfl, rfl⟩
end Go.Proofs.YtdaapdamcekkgaaDoor


namespace Go.Lx
open Go.RowKit
section
variable {P : Program} {r : Option Nat} {base : World} {n : Nat} {ρ : Env} {O : List Item} {K' : Env → List Item → Prop} {d : Nat} {t : TypeId} {p : String} {af : Array Edge} {g : Option (Nat × Bool)}
end
end Go.Lx


namespace Go.Lx
open Go.RowKit
section
variable {P : Program} {base : World} {ρ : Env} {O : List Item} {dst : Option Nat} {t : TypeId} {p : String} {af : Array Edge} {g : Option (Nat × Bool)}
theorem wrapU64 {x : Nat} (h : x < 2 ^ 64) : IntKind.u64.wrap (x : Int) = (x : Int) := by
  simp only [IntKind.wrap, IntKind.signed, IntKind.bits]
  simp
  omega
inductive UK : IntKind → Prop
  | u8 : UK .u8
  | u64 : UK .u64
theorem UK.wrap {k : IntKind} (hk : UK k) {x : Nat} (h : x < 2 ^ k.bits) : k.wrap (x : Int) = (x : Int) := by
  cases hk
  · exact wrap8 (by simpa [IntKind.bits] using h)
  · exact wrapU64 (by simpa [IntKind.bits] using h)
theorem q_remN {x y : Operand} {T U : TypeId} {k : IntKind} {a b : Nat} (hx : ev ρ x = .int k (a : Int)) (hy : ev ρ y = .int k (b : Int)) (h0 : 0 < b) : QT P base ⟨dst, .binOp .rem T x y U, t, p, af, g⟩ ρ O (.int k ((a % b : Nat) : Int)) := by
  have h := q_rem (P := P) (base := base) (O := O) (dst := dst) (t := t) (p := p) (af := af) (g := g) (T := T) (U := U) hx hy (by omega)
  rw [Int.tmod_eq_emod_of_nonneg (by omega), ← Int.natCast_emod] at h
  exact h
theorem q_addN {x y : Operand} {T U : TypeId} {a b : Nat} (hx : ev ρ x = .int .i64 (a : Int)) (hy : ev ρ y = .int .i64 (b : Int)) (h : a + b ≤ 9223372036854775807) : QT P base ⟨dst, .binOp .add T x y U, t, p, af, g⟩ ρ O (.int .i64 ((a + b : Nat) : Int)) := by
  have := q_add64 (P := P) (base := base) (O := O) (dst := dst) (t := t) (p := p) (af := af) (g := g) (T := T) (U := U) hx hy (by omega)
  rwa [← Int.natCast_add] at this
def subB (b : Option Addr) (c lo k : Nat) : Option Addr := if c = lo then b else b.map (·.add (lo * k))
theorem Sl.sub {w : World} {b : Option Addr} {cs : List Value} (h : Sl w b cs) (c lo k m : Nat) (hc : c = lo → (cs.drop (lo * k)).take m = []) : Sl w (subB b c lo k) ((cs.drop (lo * k)).take m) := fun i hi => by
  have hlt : lo * k + i < cs.length := by rw [List.length_take, List.length_drop] at hi; omega
  obtain ⟨⟨bk, o, sp⟩, h1, h2, h3⟩ := h _ hlt
  simp only at h2; subst h2
  have hne : c ≠ lo := fun e => by rw [hc e] at hi; simp at hi
  refine ⟨⟨bk, o + lo * k, none⟩, ?_, rfl, ?_⟩
  · unfold subB; rw [if_neg hne, h1]; simp [add_off]
  · simp only [List.getElem_take, List.getElem_drop]
    rw [show o + lo * k + i = o + (lo * k + i) by omega]; exact h3
end
section
variable {P : Program} {r : Option Nat} {base : World} {n : Nat} {ρ : Env} {O : List Item} {K : Env → List Item → Prop} {d : Nat} {t : TypeId} {p : String} {af : Array Edge} {g : Option (Nat × Bool)}
theorem rowP.head {b : Option Addr} {c k : Nat} {T : TypeId} {cs : List Value} {w : World} (h : rowP b c T k cs w) (m : Nat) : rowP b c T k (cs.take m) w := by
  cases b with
  | none => obtain ⟨rfl, rfl⟩ := h; exact ⟨by simp, rfl⟩
  | some a =>
    obtain ⟨h1, full, h2, h3, h4, h5⟩ := h
    refine ⟨h1, full, h2, by rw [List.length_take]; omega, h4, fun i hi => ?_⟩
    have hi' : i < cs.length := by rw [List.length_take] at hi; omega
    rw [List.getElem_take]; exact h5 i hi'
theorem Inv.head {w : World} {i : Nat} {b : Option Addr} {c k : Nat} {T : TypeId} {cs : List Value} (hI : Inv base O w) (hO : O[i]? = some (rowI b c T k cs)) (m : Nat) : Inv base (O.set i (rowI b c T k (cs.take m))) w :=
  hI.weaken hO (by simp [rowI]) (fun h => h.head m)
end
theorem T.loopS {P : Program} {r : Option Nat} {base : World} {n : Nat} {Q : Post} {ρ : Env} {O : List Item} {c : Code} {α : Type} (I : α → Env → List Item → Prop) (μ : α → Nat) (s : α) (h0 : I s ρ O)
    (h : ∀ s ρ O, I s ρ O → T P r base n c (thn (fun ρ' O' => ∃ s', μ s' < μ s ∧ ∃ O2, Sub O2 O' ∧ I s' ρ' O2) Q) ρ O) : T P r base n (.loop c) Q ρ O :=
  T.loop (fun s ρ O => ∃ O2, Sub O2 O ∧ I s ρ O2) μ s ⟨O, Sub.of (List.Sublist.refl _), h0⟩ (fun s ρ O ⟨O2, hs, hi⟩ => T.sub hs (h s ρ O2 hi))
theorem run_loadBox1 {P : Program} {T E : TypeId} {d : TypeDesc} {b : Nat} {v : Value} {cs : List Value} {fr : Nat × Nat} {w : World} (hu : P.underlying T = some d) (ha : aggB d = false) (hw : w.heap[b]? = some (.cells (v :: cs).toArray E fr)) :
    (loadVar T ⟨b, 0, none⟩).run P w = .ok v w := by
  have hc : w.cell? ⟨b, 0, none⟩ = some v := by unfold World.cell?; simp [hw]
  simp [loadVar, run_isAgg' hu, ha, hc]
structure EdgeT (P : Program) (kt : TypeId) (f1 f2 f3 f4 : Field) : Prop where
  under : P.underlying kt = some (.struct #[f1, f2, f3, f4])
  u1 : P.underlying f1.type = some (.int .i64)
  u2 : P.underlying f2.type = some (.int .i64)
  u3 : P.underlying f3.type = some (.int .u8)
  u4 : P.underlying f4.type = some (.int .u8)
  o1 : f1.offset = 0
  o2 : f2.offset = 1
  o3 : f3.offset = 2
  o4 : f4.offset = 3
  n1 : f1.name ≠ "_"
  n2 : f2.name ≠ "_"
  n3 : f3.name ≠ "_"
  n4 : f4.name ≠ "_"
  held : P.stoodInHeld kt = false
  guard : P.eqGuardType P.depth kt = false
theorem run_equal_intK {P : Program} {T : TypeId} {k k' : IntKind} (h : P.underlying T = some (.int k)) (d : Nat) (a b : Int) (w : World) : (Op.equalIn (d + 1) T (.int k' a) (.int k' b)).run P w = .ok (a == b) w := by
  rw [Op.equalIn]
  simp [run_underlying' h]
theorem EdgeT.equal {P : Program} {kt : TypeId} {f1 f2 f3 f4 : Field} (h : EdgeT P kt f1 f2 f3 f4) (a b c e a' b' c' e' : Int) (w : World) :
    (Op.equal kt (.agg #[.int .i64 a, .int .i64 b, .int .u8 c, .int .u8 e]) (.agg #[.int .i64 a', .int .i64 b', .int .u8 c', .int .u8 e'])).run P w = .ok (decide (a = a' ∧ b = b' ∧ c = c' ∧ e = e')) w := by
  show (Op.equalIn (9998 + 1 + 1) kt _ _).run P w = _
  rw [Op.equalIn]
  have p1 : ∀ (a b c e : Int), (part f1.type #[.int .i64 a, .int .i64 b, .int .u8 c, .int .u8 e] f1.offset).run P w = .ok (.int .i64 a) w := fun a b c e => by simp [part, run_isAgg' h.u1, aggB, h.o1]
  have p2 : ∀ (a b c e : Int), (part f2.type #[.int .i64 a, .int .i64 b, .int .u8 c, .int .u8 e] f2.offset).run P w = .ok (.int .i64 b) w := fun a b c e => by simp [part, run_isAgg' h.u2, aggB, h.o2]
  have p3 : ∀ (a b c e : Int), (part f3.type #[.int .i64 a, .int .i64 b, .int .u8 c, .int .u8 e] f3.offset).run P w = .ok (.int .u8 c) w := fun a b c e => by simp [part, run_isAgg' h.u3, aggB, h.o3]
  have p4 : ∀ (a b c e : Int), (part f4.type #[.int .i64 a, .int .i64 b, .int .u8 c, .int .u8 e] f4.offset).run P w = .ok (.int .u8 e) w := fun a b c e => by simp [part, run_isAgg' h.u4, aggB, h.o4]
  simp [run_underlying' h.under, h.held, h.n1, h.n2, h.n3, h.n4, p1, p2, p3, p4, run_equal_intK h.u1, run_equal_intK h.u2, run_equal_intK h.u3, run_equal_intK h.u4]
  by_cases e1 : a = a'
  · by_cases e2 : b = b'
    · by_cases e3 : c = c'
      · by_cases e4 : e = e'
        · simp [e1, e2, e3, e4]
        · simp [e1, e2, e3, e4]
      · simp [e1, e2, e3]
    · simp [e1, e2]
  · simp [e1]
section
variable {P : Program} {base : World} {ρ : Env} {O : List Item} {dst : Option Nat} {t : TypeId} {p : String} {af : Array Edge} {g : Option (Nat × Bool)}
end
end Go.Lx


namespace Go.Lx
open Go.RowKit
set_option linter.unusedVariables false
section
variable {P : Program} {r : Option Nat} {base : World} {n : Nat} {ρ : Env} {O : List Item} {K : Env → List Item → Prop} {d : Nat} {t : TypeId} {p : String} {af : Array Edge} {g : Option (Nat × Bool)}
end
theorem NextT.reorder {P : Program} {base : World} {M : List Item} {R : Value → List Item → Prop} {x : Result Next} (h : NextT P base M (fun v O' => ∃ O2, Sub O2 O' ∧ R v O2) x) : NextT P base M R x := by
  cases x with
  | halt e w => exact h
  | ok y w =>
    cases y with
    | enter f args => exact Calls.mono h (fun e w' ⟨v, O', h1, h2, O2, hs, hr⟩ => ⟨v, O2, h1, h2.subp hs.app, hr⟩)
    | round l f tmps assign body => exact RoundIn.mono h (fun e w' ⟨v, O', h1, h2, O2, hs, hr⟩ => ⟨v, O2, h1, h2.subp hs.app, hr⟩)
    | _ => exact h
theorem CallV.reorder {P : Program} {base : World} {fv : Value} {args : List Value} {O : List Item} {R : Value → List Item → Prop} (h : CallV P base fv args O (fun v O' => ∃ O2, Sub O2 O' ∧ R v O2)) : CallV P base fv args O R := fun w M hI => (h w M hI).reorder
theorem sub_swap {A B : List Item} : Sub (A ++ B) (B ++ A) := ⟨_, List.perm_append_comm, List.Sublist.refl _⟩
theorem CallV.atR {P : Program} {base : World} {fv : Value} {args : List Value} {A : List Item} (B : List Item) {R : Value → List Item → Prop} (h : CallV P base fv args A R) : CallV P base fv args (B ++ A) (fun v O' => ∃ A', O' = B ++ A' ∧ R v A') :=
  ((h.under (B := B) sub_swap).mono (fun v O' ⟨A', e, hr⟩ => ⟨B ++ A', by rw [e]; exact sub_swap, A', rfl, hr⟩)).reorder
theorem Inv.right {base : World} {A B : List Item} {w : World} (h : Inv base (A ++ B) w) : Inv base B w := h.sub (List.sublist_append_right _ _)
def WordsR (w : World) (vs : List Value) (ws : List (List Nat)) : Prop :=
  vs.length = ws.length ∧ ∀ (i : Nat) (r : List Nat), ws[i]? = some r → ∃ b c, vs[i]? = some (Value.slice b r.length c) ∧ Sl w b (byts r)
theorem WordsR.get {w : World} {vs : List Value} {ws : List (List Nat)} (h : WordsR w vs ws) {i : Nat} (hi : i < ws.length) : ∃ b c, vs[i]? = some (Value.slice b ws[i].length c) ∧ Sl w b (byts ws[i]) :=
  h.2 i _ (List.getElem?_eq_getElem hi)
theorem WordsR.keep {w w' : World} {vs : List Value} {ws : List (List Nat)} (h : WordsR w vs ws) (hb : ∀ k, k < w.heap.size → w'.heap[k]? = w.heap[k]?) : WordsR w' vs ws :=
  ⟨h.1, fun i r hr => by obtain ⟨b, c, h1, h2⟩ := h.2 i r hr; exact ⟨b, c, h1, h2.keep hb⟩⟩
theorem WordsR.two {w : World} {b1 b2 : Option Addr} {c1 c2 n1 n2 : Nat} {r1 r2 : List Nat} (h1 : Sl w b1 (byts r1)) (h2 : Sl w b2 (byts r2)) (e1 : r1.length = n1) (e2 : r2.length = n2) : WordsR w [.slice b1 n1 c1, .slice b2 n2 c2] [r1, r2] := by
  refine ⟨rfl, fun i r hr => ?_⟩
  match i with
  | 0 => simp at hr; subst hr; exact ⟨b1, c1, by rw [e1]; rfl, h1⟩
  | 1 => simp at hr; subst hr; exact ⟨b2, c2, by rw [e2]; rfl, h2⟩
  | i + 2 => simp at hr
end Go.Lx


namespace Go.Lx
open Go.RowKit
set_option linter.unusedVariables false
theorem CallV.pick {P : Program} {base : World} {fv : Value} {args : List Value} {x : Value} (is : List Nat) (L R A : List Item) (hA : pickL is L = A) (h : CallV P base fv args A (fun v O' => v = x ∧ O' = A)) : CallV P base fv args (L ++ R) (fun v O' => v = x ∧ O' = L ++ R) := by
  subst hA
  have hp : (pickL is L ++ (restL is L ++ R)).Perm (L ++ R) := by
    rw [← List.append_assoc]; exact (pick_perm is L).append_right R
  exact ((h.under (B := restL is L ++ R) (Sub.of_perm (D := []) (by simpa using hp))).mono (fun v O' ⟨A', e, hv, ha⟩ => ⟨L ++ R, by rw [e, ha]; exact Sub.of_perm (D := []) (by simpa using hp.symm), hv, rfl⟩)).reorder
theorem Src.own {P : Program} {base : World} {O : List Item} {b : Option Addr} {c k m : Nat} {cs : List Value} (h : ∀ w, Inv base O w → Sl w b cs) (hl : cs.length = m * k) : Src P base O k m (.slice b m c) cs :=
  ⟨hl, fun w => by simp [Builtin.lenOf], fun w hI => firstCells_run (h w hI) hl (fun e => by
    cases cs with
    | nil => rfl
    | cons v cs => obtain ⟨a, h1, _⟩ := h w hI 0 (by simp); rw [e] at h1; cases h1)⟩
section
variable {P : Program} {r : Option Nat} {base : World} {n : Nat} {ops : Array Oper} {S S2 : List Item} {tail tail2 : List Nat} {K : Env → List Item → Prop} {ρ : Env} {O : List Item}
end
end Go.Lx


namespace Go.Lx
open Go.RowKit
set_option linter.unusedVariables false
section
variable {P : Program} {r : Option Nat} {base : World} {n : Nat} {ops : Array Oper} {S S2 : List Item} {tail tail2 : List Nat} {K : Env → List Item → Prop} {ρ : Env} {O : List Item}
end
theorem Sub.k {A B : List Item} {a : Item} (h : Sub A B) : Sub (a :: A) (a :: B) := by
  obtain ⟨l, h1, h2⟩ := h; exact ⟨a :: l, h1.cons a, .cons_cons a h2⟩
theorem Sub.d {A B : List Item} {a : Item} (h : Sub A B) : Sub A (a :: B) := by
  obtain ⟨l, h1, h2⟩ := h; exact ⟨l, h1, .cons a h2⟩
theorem Sub.z {B : List Item} : Sub [] B := Sub.of (List.nil_sublist _)
theorem Sub.rf {B : List Item} : Sub B B := Sub.of (List.Sublist.refl _)
theorem Sub.swap3 (A B S : List Item) : Sub ((A ++ B) ++ S) ((A ++ S) ++ B) := by
  refine ⟨(A ++ S) ++ B, ?_, List.Sublist.refl _⟩
  rw [List.append_assoc, List.append_assoc]
  exact List.Perm.append_left A List.perm_append_comm
theorem sub_perm {l B : List Item} (h : l.Sublist B) : ∃ D, (l ++ D).Perm B := by
  induction h with
  | slnil => exact ⟨[], List.Perm.refl _⟩
  | cons a _ ih => obtain ⟨D, hD⟩ := ih; exact ⟨a :: D, List.perm_middle.trans (hD.cons a)⟩
  | cons_cons a _ ih => obtain ⟨D, hD⟩ := ih; exact ⟨D, hD.cons a⟩
theorem Sub.perm {A B : List Item} (h : Sub A B) : ∃ D, (A ++ D).Perm B := by
  obtain ⟨l, p, s⟩ := h
  obtain ⟨D, hD⟩ := sub_perm s
  exact ⟨D, (p.append_right D).trans hD⟩
theorem Sub.tr {A B C : List Item} (h1 : Sub A B) (h2 : Sub B C) : Sub A C := by
  obtain ⟨D, p⟩ := h1.perm
  obtain ⟨E, q⟩ := h2.perm
  exact Sub.of_perm (D := D ++ E) (by rw [← List.append_assoc]; exact (p.append_right E).trans q)
end Go.Lx


namespace Go.Lx
open Go.RowKit
set_option linter.unusedVariables false
theorem Sub.pull {xs : List Item} {x : Item} (P Q : List Item) (h : Sub xs (P ++ Q)) : Sub (x :: xs) (P ++ x :: Q) := by
  obtain ⟨D, p⟩ := h.perm
  refine Sub.of_perm (D := D) ?_
  exact (p.cons x).trans List.perm_middle.symm
example (a b c d e : Item) (R : List Item) : Sub ([c, a, e] ++ R) ([a, b, c, d, e] ++ R) := by exact Sub.pull [a, b] _ (.k (.d (.d (.k .rf))))
end Go.Lx


namespace Go.Lx
open Go.RowKit
end Go.Lx


namespace Go.Proofs.YtdaapdamcekkgaaDoor
open Go.Lx Go.RowKit
set_option linter.unusedVariables false
set_option linter.unusedSimpArgs false
set_option maxHeartbeats 1000000 in
set_option maxRecDepth 20000 in
theorem equalInts (w : World) (b1 b2 : Option Addr) (c1 c2 : Nat) (xs ys : List Int) (h1 : Sl w b1 (ints xs)) (h2 : Sl w b2 (ints ys)) (hb : xs.length < 9223372036854775807) :
    PureT Tryd.prog 71 [(.slice b1 xs.length c1), (.slice b2 ys.length c2)] w fun v N => v = .bool (decide (xs = ys)) ∧ N = [] := by
  refine CallT.enter Tryd.func71 rfl Tryd.ntmps71 rfl ?_
  refine T.seq (T.region ?_)
  refine TO.quiet (q_assign rfl) ?_
  refine TO.nil (T.seq (T.seq (T.region ?_)))
  refine TO.quiet (q_move rfl) (TO.quiet (q_len Tryd.underlying52 rfl) (TO.quiet (q_move rfl) (TO.quiet (q_len Tryd.underlying52 rfl) ?_)))
  refine TO.quiet (q_neq rfl rfl) ?_
  refine TO.nil ?_
  refine T.condP rfl (fun hc => ?_) (fun hc => ?_)
  · have hlt10 : xs.length ≠ ys.length := by omega
    have hlen : xs.length ≠ ys.length := by omega
    refine T.seq (T.region ?_)
    refine TO.quiet (q_assign rfl) ?_
    refine TO.nil (T.ret ?_)
    refine Res.one (.bool false) Tryd.results71 rfl ?_
    exact ⟨congrArg Value.bool (decide_eq_false (fun e => hlen (by rw [e]))).symm, rfl⟩
  have hge10 : ¬ xs.length ≠ ys.length := by omega
  have hlen : xs.length = ys.length := by omega
  refine T.skip (T.seq (T.seq (T.region ?_)))
  refine TO.quiet (q_assign rfl) ?_
  refine TO.nil (T.block ?_)
  refine T.loop (fun (k : Nat) ρ O => O = [] ∧ k ≤ xs.length ∧ xs.take k = ys.take k ∧ Heads [(0, (.slice b1 xs.length c1)), (1, (.slice b2 ys.length c2)), (5, .int .i64 (k : Int))] ρ) (fun k => xs.length - k) 0 ?_ ?_
  · exact ⟨rfl, Nat.zero_le _, rfl, ⟨rfl, rfl, rfl, trivial⟩⟩
  rintro k ρ O ⟨rfl, hk, he, hH⟩
  obtain ⟨ρ0, rfl⟩ := hH.elim
  clear hH
  refine T.seq (T.seq (T.region ?_))
  refine TO.quiet (q_move rfl) (TO.quiet (q_move rfl) (TO.quiet (q_len Tryd.underlying52 rfl) (TO.quiet (q_lss rfl rfl) ?_)))
  refine TO.nil ?_
  refine T.condP rfl (fun hc => ?_) (fun hc => ?_)
  · have hlt14 : k < xs.length := by omega
    have hlt : k < xs.length := by omega
    have hlt2 : k < ys.length := by omega
    obtain ⟨kb1, ko1, rfl⟩ := h1.addr (i := k) (by simpa using hlt)
    obtain ⟨kb2, ko2, rfl⟩ := h2.addr (i := k) (by simpa using hlt2)
    refine T.skip (T.seq (T.block (T.seq ?_)))
    refine T.draws _ [(0, 0), (1, 0), (2, 0), (3, 0), (4, 0), (5, 0), (6, 0), (7, 0), (8, 0)] mixed (by kernel_rfl) (Sub.of (List.Sublist.refl _)) (fun _ _ _ h => h) ?_
    refine DO.quiet rfl (q_move rfl) (DO.quiet rfl (q_move rfl) (DO.quiet rfl (q_idx Tryd.underlying52 inf3 rfl rfl hlt) (DO.quiet rfl (q_load_sl Tryd.underlying3 rfl rfl h1 (ints_get hlt)) ?_)))
    refine DO.quiet rfl (q_move rfl) (DO.quiet rfl (q_move rfl) (DO.quiet rfl (q_idx Tryd.underlying52 inf3 rfl rfl hlt2) (DO.quiet rfl (q_load_sl Tryd.underlying3 rfl rfl h2 (ints_get hlt2)) ?_)))
    refine DO.quiet rfl (q_neq rfl rfl) ?_
    refine DO.done ?_
    refine T.condP (p := ¬ xs[k] = ys[k]) rfl (fun hc => ?_) (fun hc => ?_)
    · refine T.seq ?_
      refine T.region ?_
      refine TO.quiet (q_assign rfl) ?_
      refine TO.nil (T.ret ?_)
      refine Res.one (.bool false) Tryd.results71 rfl ?_
      exact ⟨congrArg Value.bool (decide_eq_false (fun e => hc (by subst e; rfl))).symm, rfl⟩
    refine T.skip (T.region ?_)
    refine TO.quiet (q_move rfl) (TO.quiet (q_inc rfl rfl (by omega)) (TO.quiet (q_assign rfl) ?_))
    refine TO.nil ?_
    refine ⟨k + 1, by omega, rfl, by omega, ?_, ⟨rfl, rfl, rfl, trivial⟩⟩
    rw [List.take_succ_eq_append_getElem hlt, List.take_succ_eq_append_getElem hlt2, he]
    exact congrArg _ (congrArg (fun z => [z]) (Classical.not_not.1 hc))
  have hge14 : ¬ k < xs.length := by omega
  refine T.exit ?_
  refine T.seq (T.region ?_)
  refine TO.quiet (q_assign rfl) ?_
  refine TO.nil (T.ret ?_)
  refine Res.one (.bool true) Tryd.results71 rfl ?_
  exact ⟨congrArg Value.bool (decide_eq_true (show xs = ys by rw [List.take_of_length_le (by omega), List.take_of_length_le (by omega)] at he; exact he)).symm, rfl⟩
set_option maxHeartbeats 1000000 in
set_option maxRecDepth 20000 in
theorem equalBools (w : World) (b1 b2 : Option Addr) (c1 c2 : Nat) (xs ys : List Bool) (h1 : Sl w b1 (bools xs)) (h2 : Sl w b2 (bools ys)) (hb : xs.length < 9223372036854775807) :
    PureT Tryd.prog 36 [(.slice b1 xs.length c1), (.slice b2 ys.length c2)] w fun v N => v = .bool (decide (xs = ys)) ∧ N = [] := by
  refine CallT.enter Tryd.func36 rfl Tryd.ntmps36 rfl ?_
  refine T.seq (T.region ?_)
  refine TO.quiet (q_assign rfl) ?_
  refine TO.nil (T.seq (T.seq (T.region ?_)))
  refine TO.quiet (q_move rfl) (TO.quiet (q_len Tryd.underlying23 rfl) (TO.quiet (q_move rfl) (TO.quiet (q_len Tryd.underlying23 rfl) ?_)))
  refine TO.quiet (q_neq rfl rfl) ?_
  refine TO.nil ?_
  refine T.condP rfl (fun hc => ?_) (fun hc => ?_)
  · have hlt10 : xs.length ≠ ys.length := by omega
    have hlen : xs.length ≠ ys.length := by omega
    refine T.seq (T.region ?_)
    refine TO.quiet (q_assign rfl) ?_
    refine TO.nil (T.ret ?_)
    refine Res.one (.bool false) Tryd.results36 rfl ?_
    exact ⟨congrArg Value.bool (decide_eq_false (fun e => hlen (by rw [e]))).symm, rfl⟩
  have hge10 : ¬ xs.length ≠ ys.length := by omega
  have hlen : xs.length = ys.length := by omega
  refine T.skip (T.seq (T.seq (T.region ?_)))
  refine TO.quiet (q_assign rfl) ?_
  refine TO.nil (T.block ?_)
  refine T.loop (fun (k : Nat) ρ O => O = [] ∧ k ≤ xs.length ∧ xs.take k = ys.take k ∧ Heads [(0, (.slice b1 xs.length c1)), (1, (.slice b2 ys.length c2)), (5, .int .i64 (k : Int))] ρ) (fun k => xs.length - k) 0 ?_ ?_
  · exact ⟨rfl, Nat.zero_le _, rfl, ⟨rfl, rfl, rfl, trivial⟩⟩
  rintro k ρ O ⟨rfl, hk, he, hH⟩
  obtain ⟨ρ0, rfl⟩ := hH.elim
  clear hH
  refine T.seq (T.seq (T.region ?_))
  refine TO.quiet (q_move rfl) (TO.quiet (q_move rfl) (TO.quiet (q_len Tryd.underlying23 rfl) (TO.quiet (q_lss rfl rfl) ?_)))
  refine TO.nil ?_
  refine T.condP rfl (fun hc => ?_) (fun hc => ?_)
  · have hlt14 : k < xs.length := by omega
    have hlt : k < xs.length := by omega
    have hlt2 : k < ys.length := by omega
    obtain ⟨kb1, ko1, rfl⟩ := h1.addr (i := k) (by simpa using hlt)
    obtain ⟨kb2, ko2, rfl⟩ := h2.addr (i := k) (by simpa using hlt2)
    refine T.skip (T.seq (T.block (T.seq ?_)))
    refine T.draws _ [(0, 0), (1, 0), (2, 0), (3, 0), (4, 0), (5, 0), (6, 0), (7, 0), (8, 0)] mixed (by kernel_rfl) (Sub.of (List.Sublist.refl _)) (fun _ _ _ h => h) ?_
    refine DO.quiet rfl (q_move rfl) (DO.quiet rfl (q_move rfl) (DO.quiet rfl (q_idx Tryd.underlying23 inf4 rfl rfl hlt) (DO.quiet rfl (q_load_sl Tryd.underlying4 rfl rfl h1 (bools_get hlt)) ?_)))
    refine DO.quiet rfl (q_move rfl) (DO.quiet rfl (q_move rfl) (DO.quiet rfl (q_idx Tryd.underlying23 inf4 rfl rfl hlt2) (DO.quiet rfl (q_load_sl Tryd.underlying4 rfl rfl h2 (bools_get hlt2)) ?_)))
    refine DO.quiet rfl (q_bneq Tryd.underlying4 rfl rfl) ?_
    refine DO.done ?_
    refine T.condP (p := ¬ xs[k] = ys[k]) (congrArg Value.bool (by cases xs[k] <;> cases ys[k] <;> rfl)) (fun hc => ?_) (fun hc => ?_)
    · refine T.seq ?_
      refine T.region ?_
      refine TO.quiet (q_assign rfl) ?_
      refine TO.nil (T.ret ?_)
      refine Res.one (.bool false) Tryd.results36 rfl ?_
      exact ⟨congrArg Value.bool (decide_eq_false (fun e => hc (by subst e; rfl))).symm, rfl⟩
    refine T.skip (T.region ?_)
    refine TO.quiet (q_move rfl) (TO.quiet (q_inc rfl rfl (by omega)) (TO.quiet (q_assign rfl) ?_))
    refine TO.nil ?_
    refine ⟨k + 1, by omega, rfl, by omega, ?_, ⟨rfl, rfl, rfl, trivial⟩⟩
    rw [List.take_succ_eq_append_getElem hlt, List.take_succ_eq_append_getElem hlt2, he]
    exact congrArg _ (congrArg (fun z => [z]) (Classical.not_not.1 hc))
  have hge14 : ¬ k < xs.length := by omega
  refine T.exit ?_
  refine T.seq (T.region ?_)
  refine TO.quiet (q_assign rfl) ?_
  refine TO.nil (T.ret ?_)
  refine Res.one (.bool true) Tryd.results36 rfl ?_
  exact ⟨congrArg Value.bool (decide_eq_true (show xs = ys by rw [List.take_of_length_le (by omega), List.take_of_length_le (by omega)] at he; exact he)).symm, rfl⟩
set_option maxHeartbeats 1000000 in
set_option maxRecDepth 20000 in
theorem equalBytes (w : World) (b1 b2 : Option Addr) (c1 c2 : Nat) (xs ys : List Nat) (h1 : Sl w b1 (byts xs)) (h2 : Sl w b2 (byts ys)) (hb : xs.length < 9223372036854775807) :
    PureT Tryd.prog 33 [(.slice b1 xs.length c1), (.slice b2 ys.length c2)] w fun v N => v = .bool (decide (xs = ys)) ∧ N = [] := by
  refine CallT.enter Tryd.func33 rfl Tryd.ntmps33 rfl ?_
  refine T.seq (T.region ?_)
  refine TO.quiet (q_assign rfl) ?_
  refine TO.nil (T.seq (T.seq (T.region ?_)))
  refine TO.quiet (q_move rfl) (TO.quiet (q_len Tryd.underlying35 rfl) (TO.quiet (q_move rfl) (TO.quiet (q_len Tryd.underlying35 rfl) ?_)))
  refine TO.quiet (q_neq rfl rfl) ?_
  refine TO.nil ?_
  refine T.condP rfl (fun hc => ?_) (fun hc => ?_)
  · have hlt10 : xs.length ≠ ys.length := by omega
    have hlen : xs.length ≠ ys.length := by omega
    refine T.seq (T.region ?_)
    refine TO.quiet (q_assign rfl) ?_
    refine TO.nil (T.ret ?_)
    refine Res.one (.bool false) Tryd.results33 rfl ?_
    exact ⟨congrArg Value.bool (decide_eq_false (fun e => hlen (by rw [e]))).symm, rfl⟩
  have hge10 : ¬ xs.length ≠ ys.length := by omega
  have hlen : xs.length = ys.length := by omega
  refine T.skip (T.seq (T.seq (T.region ?_)))
  refine TO.quiet (q_assign rfl) ?_
  refine TO.nil (T.block ?_)
  refine T.loop (fun (k : Nat) ρ O => O = [] ∧ k ≤ xs.length ∧ xs.take k = ys.take k ∧ Heads [(0, (.slice b1 xs.length c1)), (1, (.slice b2 ys.length c2)), (5, .int .i64 (k : Int))] ρ) (fun k => xs.length - k) 0 ?_ ?_
  · exact ⟨rfl, Nat.zero_le _, rfl, ⟨rfl, rfl, rfl, trivial⟩⟩
  rintro k ρ O ⟨rfl, hk, he, hH⟩
  obtain ⟨ρ0, rfl⟩ := hH.elim
  clear hH
  refine T.seq (T.seq (T.region ?_))
  refine TO.quiet (q_move rfl) (TO.quiet (q_move rfl) (TO.quiet (q_len Tryd.underlying35 rfl) (TO.quiet (q_lss rfl rfl) ?_)))
  refine TO.nil ?_
  refine T.condP rfl (fun hc => ?_) (fun hc => ?_)
  · have hlt14 : k < xs.length := by omega
    have hlt : k < xs.length := by omega
    have hlt2 : k < ys.length := by omega
    obtain ⟨kb1, ko1, rfl⟩ := h1.addr (i := k) (by simpa using hlt)
    obtain ⟨kb2, ko2, rfl⟩ := h2.addr (i := k) (by simpa using hlt2)
    refine T.skip (T.seq (T.block (T.seq ?_)))
    refine T.draws _ [(0, 0), (1, 0), (2, 0), (3, 0), (4, 0), (5, 0), (6, 0), (7, 0), (8, 0)] mixed (by kernel_rfl) (Sub.of (List.Sublist.refl _)) (fun _ _ _ h => h) ?_
    refine DO.quiet rfl (q_move rfl) (DO.quiet rfl (q_move rfl) (DO.quiet rfl (q_idx Tryd.underlying35 inf5 rfl rfl hlt) (DO.quiet rfl (q_load_sl Tryd.underlying5 rfl rfl h1 (byts_get hlt)) ?_)))
    refine DO.quiet rfl (q_move rfl) (DO.quiet rfl (q_move rfl) (DO.quiet rfl (q_idx Tryd.underlying35 inf5 rfl rfl hlt2) (DO.quiet rfl (q_load_sl Tryd.underlying5 rfl rfl h2 (byts_get hlt2)) ?_)))
    refine DO.quiet rfl (q_neq rfl rfl) ?_
    refine DO.done ?_
    refine T.condP (p := ¬ xs[k] = ys[k]) (congrArg Value.bool (decide_eq_decide.2 (by omega))) (fun hc => ?_) (fun hc => ?_)
    · have hlt25 : xs[k] ≠ ys[k] := by omega
      refine T.seq (T.region ?_)
      refine TO.quiet (q_assign rfl) ?_
      refine TO.nil (T.ret ?_)
      refine Res.one (.bool false) Tryd.results33 rfl ?_
      exact ⟨congrArg Value.bool (decide_eq_false (fun e => hc (by subst e; rfl))).symm, rfl⟩
    have hge25 : ¬ xs[k] ≠ ys[k] := by omega
    refine T.skip (T.region ?_)
    refine TO.quiet (q_move rfl) (TO.quiet (q_inc rfl rfl (by omega)) (TO.quiet (q_assign rfl) ?_))
    refine TO.nil ?_
    refine ⟨k + 1, by omega, rfl, by omega, ?_, ⟨rfl, rfl, rfl, trivial⟩⟩
    rw [List.take_succ_eq_append_getElem hlt, List.take_succ_eq_append_getElem hlt2, he]
    exact congrArg _ (congrArg (fun z => [z]) (Classical.not_not.1 hc))
  have hge14 : ¬ k < xs.length := by omega
  refine T.exit ?_
  refine T.seq (T.region ?_)
  refine TO.quiet (q_assign rfl) ?_
  refine TO.nil (T.ret ?_)
  refine Res.one (.bool true) Tryd.results33 rfl ?_
  exact ⟨congrArg Value.bool (decide_eq_true (show xs = ys by rw [List.take_of_length_le (by omega), List.take_of_length_le (by omega)] at he; exact he)).symm, rfl⟩
set_option maxHeartbeats 1000000 in
set_option maxRecDepth 20000 in
theorem equalRows (w : World) (b1 b2 : Option Addr) (c1 c2 : Nat) (vs us : List Value) (rs ss : List (List Int)) (h1 : Sl w b1 vs) (hr1 : RowsR w vs rs) (h2 : Sl w b2 us) (hr2 : RowsR w us ss) (hb : rs.length < 9223372036854775807) (hbr : ∀ r ∈ rs, r.length < 9223372036854775807) :
    PureT Tryd.prog 45 [.slice b1 rs.length c1, .slice b2 ss.length c2] w fun v N => v = .bool (decide (rs = ss)) ∧ N = [] := by
  refine CallT.enter Tryd.func45 rfl Tryd.ntmps45 rfl ?_
  refine T.seq (T.region ?_)
  refine TO.quiet (q_assign rfl) ?_
  refine TO.nil (T.seq (T.seq (T.region ?_)))
  refine TO.quiet (q_move rfl) (TO.quiet (q_len Tryd.underlying22 rfl) (TO.quiet (q_move rfl) (TO.quiet (q_len Tryd.underlying22 rfl) ?_)))
  refine TO.quiet (q_neq rfl rfl) ?_
  refine TO.nil ?_
  refine T.condP rfl (fun hc => ?_) (fun hc => ?_)
  · have hlt10 : rs.length ≠ ss.length := by omega
    have hlen : rs.length ≠ ss.length := by omega
    refine T.seq (T.region ?_)
    refine TO.quiet (q_assign rfl) ?_
    refine TO.nil (T.ret ?_)
    refine Res.one (.bool false) Tryd.results45 rfl ?_
    exact ⟨congrArg Value.bool (decide_eq_false (fun e => hlen (by rw [e]))).symm, rfl⟩
  have hge10 : ¬ rs.length ≠ ss.length := by omega
  have hlen : rs.length = ss.length := by omega
  refine T.skip (T.seq (T.seq (T.region ?_)))
  refine TO.quiet (q_assign rfl) ?_
  refine TO.nil (T.block ?_)
  refine T.loop (fun (k : Nat) ρ O => O = [] ∧ k ≤ rs.length ∧ rs.take k = ss.take k ∧ Heads [(0, (.slice b1 rs.length c1)), (1, (.slice b2 ss.length c2)), (5, .int .i64 (k : Int))] ρ) (fun k => rs.length - k) 0 ?_ ?_
  · exact ⟨rfl, Nat.zero_le _, rfl, ⟨rfl, rfl, rfl, trivial⟩⟩
  rintro k ρ O ⟨rfl, hk, he, hH⟩
  obtain ⟨ρ0, rfl⟩ := hH.elim
  clear hH
  refine T.seq (T.seq (T.region ?_))
  refine TO.quiet (q_move rfl) (TO.quiet (q_move rfl) (TO.quiet (q_len Tryd.underlying22 rfl) (TO.quiet (q_lss rfl rfl) ?_)))
  refine TO.nil ?_
  refine T.condP rfl (fun hc => ?_) (fun hc => ?_)
  · have hlt14 : k < rs.length := by omega
    have hlt : k < rs.length := by omega
    have hlt2 : k < ss.length := by omega
    obtain ⟨vb1, vc1, g1, s1⟩ := hr1.get hlt
    obtain ⟨vb2, vc2, g2, s2⟩ := hr2.get hlt2
    obtain ⟨kb1, ko1, rfl⟩ := h1.addr (i := k) (by rw [hr1.1]; exact hlt)
    obtain ⟨kb2, ko2, rfl⟩ := h2.addr (i := k) (by rw [hr2.1]; exact hlt2)
    refine T.skip (T.seq (T.block (T.seq ?_)))
    refine T.draws _ [(0, 0), (1, 0), (2, 0), (3, 0), (4, 0), (5, 0), (6, 0), (7, 0), (8, 2), (9, 2)] mixed (by kernel_rfl) (Sub.of (List.Sublist.refl _)) (fun _ _ _ h => h) ?_
    refine DO.quiet rfl (q_move rfl) (DO.quiet rfl (q_move rfl) (DO.quiet rfl (q_idx Tryd.underlying22 inf52 rfl rfl hlt) (DO.quiet rfl (q_load_sl Tryd.underlying52 rfl rfl h1 g1) ?_)))
    refine DO.quiet rfl (q_move rfl) (DO.quiet rfl (q_move rfl) (DO.quiet rfl (q_idx Tryd.underlying22 inf52 rfl rfl hlt2) (DO.quiet rfl (q_load_sl Tryd.underlying52 rfl rfl h2 g2) ?_)))
    have hk25 := fun (w1 : World) (hI : Inv w [] w1) => equalInts w1 vb1 vb2 vc1 vc2 rs[k] ss[k] (hI.sl s1) (hI.sl s2) (hbr _ (List.getElem_mem hlt))
    refine DO.last rfl rfl (l_call ent71 (CallT.of_pure hk25) rfl ?_)
    clear hk25
    rintro v O' ⟨N, rfl, rfl, rfl⟩
    refine DO.last rfl rfl (LT.of_quiet rfl rfl (q_not rfl) ?_)
    refine DO.done ?_
    refine T.condP (p := ¬ rs[k] = ss[k]) (congrArg Value.bool (by simp)) (fun hc => ?_) (fun hc => ?_)
    · refine T.seq ?_
      refine T.region ?_
      refine TO.quiet (q_assign rfl) ?_
      refine TO.nil (T.ret ?_)
      refine Res.one (.bool false) Tryd.results45 rfl ?_
      exact ⟨congrArg Value.bool (decide_eq_false (fun e => hc (by subst e; rfl))).symm, rfl⟩
    refine T.skip (T.region ?_)
    refine TO.quiet (q_move rfl) (TO.quiet (q_inc rfl rfl (by omega)) (TO.quiet (q_assign rfl) ?_))
    refine TO.nil ?_
    refine ⟨k + 1, by omega, rfl, by omega, ?_, ⟨rfl, rfl, rfl, trivial⟩⟩
    rw [List.take_succ_eq_append_getElem hlt, List.take_succ_eq_append_getElem hlt2, he]
    exact congrArg _ (congrArg (fun z => [z]) (Classical.not_not.1 hc))
  have hge14 : ¬ k < rs.length := by omega
  refine T.exit ?_
  refine T.seq (T.region ?_)
  refine TO.quiet (q_assign rfl) ?_
  refine TO.nil (T.ret ?_)
  refine Res.one (.bool true) Tryd.results45 rfl ?_
  exact ⟨congrArg Value.bool (decide_eq_true (show rs = ss by rw [List.take_of_length_le (by omega), List.take_of_length_le (by omega)] at he; exact he)).symm, rfl⟩
set_option maxHeartbeats 1000000 in
set_option maxRecDepth 20000 in
theorem equalDFA (w : World) (d e : DFA) (nb1 nb2 fb1 fb2 : Option Addr) (nc1 nc2 fc1 fc2 : Nat) (vs us : List Value) (h1 : DfaAt w d nb1 vs fb1) (h2 : DfaAt w e nb2 us fb2) (hb : d.next.length < 9223372036854775807) (hbr : ∀ r ∈ d.next, r.length < 9223372036854775807) (hbf : d.final.length < 9223372036854775807) :
    PureT Tryd.prog 15 [.agg (dfaCells d nb1 nc1 fb1 fc1).toArray, .agg (dfaCells e nb2 nc2 fb2 fc2).toArray] w fun v N => v = .bool (decide (d = e)) ∧ True := by
  refine CallT.enter Tryd.func15 rfl Tryd.ntmps15 rfl ?_
  refine T.seq (T.region ?_)
  refine TO.loud rfl (l_box (v := (.agg #[(.int .i64 d.vars), (.int .i64 d.start), (.slice nb1 d.next.length nc1), (.slice fb1 d.final.length fc1)])) (cs := [(.int .i64 d.vars), (.int .i64 d.start), (.slice nb1 d.next.length nc1), (.slice fb1 d.final.length fc1)]) rfl rfl (fun b1 => ?_))
  refine TO.loud rfl (l_box (v := (.agg #[(.int .i64 e.vars), (.int .i64 e.start), (.slice nb2 e.next.length nc2), (.slice fb2 e.final.length fc2)])) (cs := [(.int .i64 e.vars), (.int .i64 e.start), (.slice nb2 e.next.length nc2), (.slice fb2 e.final.length fc2)]) rfl rfl (fun b2 => ?_))
  refine TO.quiet (q_assign rfl) ?_
  refine TO.nil (T.seq (T.region ?_))
  refine TO.quiet (q_fieldAddr Tryd.underlying25 rfl inf3 rfl rfl) (TO.quiet (q_load_box 1 Tryd.underlying3 rfl rfl rfl rfl) (TO.quiet (q_fieldAddr Tryd.underlying25 rfl inf3 rfl rfl) (TO.quiet (q_load_box 0 Tryd.underlying3 rfl rfl rfl rfl) ?_)))
  by_cases e1 : d.vars = e.vars
  · refine TO.quiet (QT.toB (q_eql rfl rfl) (decide_eq_true e1)) ?_
    refine TO.quiet (q_move rfl) ?_
    refine TO.guarded rfl rfl rfl (LT.of_quiet rfl rfl (q_fieldAddr Tryd.underlying25 rfl inf3 rfl rfl) ?_)
    refine TO.guarded rfl rfl rfl (LT.of_quiet rfl rfl (q_load_box 1 Tryd.underlying3 rfl rfl rfl rfl) ?_)
    refine TO.guarded rfl rfl rfl (LT.of_quiet rfl rfl (q_fieldAddr Tryd.underlying25 rfl inf3 rfl rfl) ?_)
    refine TO.guarded rfl rfl rfl (LT.of_quiet rfl rfl (q_load_box 0 Tryd.underlying3 rfl rfl rfl rfl) ?_)
    by_cases e2 : d.start = e.start
    · refine TO.guarded rfl rfl rfl (LT.of_quiet rfl rfl (QT.toB (q_eql rfl rfl) (decide_eq_true e2)) ?_)
      refine TO.quiet (q_pick1 rfl rfl) (TO.quiet (q_move rfl) ?_)
      refine TO.guarded rfl rfl rfl (LT.of_quiet rfl rfl (q_fieldAddr Tryd.underlying25 rfl inf22 rfl rfl) ?_)
      refine TO.guarded rfl rfl rfl (LT.of_quiet rfl rfl (q_load_box 1 Tryd.underlying22 rfl rfl rfl rfl) ?_)
      refine TO.guarded rfl rfl rfl (LT.of_quiet rfl rfl (q_fieldAddr Tryd.underlying25 rfl inf22 rfl rfl) ?_)
      refine TO.guarded rfl rfl rfl (LT.of_quiet rfl rfl (q_load_box 0 Tryd.underlying22 rfl rfl rfl rfl) ?_)
      by_cases e3 : d.next = e.next
      · have hk22 := fun (w1 : World) (hI : Inv w [oI b2 25 [(.int .i64 e.vars), (.int .i64 e.start), (.slice nb2 e.next.length nc2), (.slice fb2 e.final.length fc2)], oI b1 25 [(.int .i64 d.vars), (.int .i64 d.start), (.slice nb1 d.next.length nc1), (.slice fb1 d.final.length fc1)]] w1) => equalRows w1 nb1 nb2 nc1 nc2 vs us d.next e.next (hI.sl h1.outer) (hI.rows h1.rows) (hI.sl h2.outer) (hI.rows h2.rows) hb hbr
        refine TO.guarded rfl rfl rfl (l_call ent45 (CallT.of_pure hk22) rfl ?_)
        clear hk22
        rintro v O' ⟨N, rfl, rfl, rfl⟩
        rw [decide_eq_true e3]
        refine TO.quiet (q_pick1 rfl rfl) (TO.quiet (q_move rfl) ?_)
        refine TO.guarded rfl rfl rfl (LT.of_quiet rfl rfl (q_fieldAddr Tryd.underlying25 rfl inf23 rfl rfl) ?_)
        refine TO.guarded rfl rfl rfl (LT.of_quiet rfl rfl (q_load_box 1 Tryd.underlying23 rfl rfl rfl rfl) ?_)
        refine TO.guarded rfl rfl rfl (LT.of_quiet rfl rfl (q_fieldAddr Tryd.underlying25 rfl inf23 rfl rfl) ?_)
        refine TO.guarded rfl rfl rfl (LT.of_quiet rfl rfl (q_load_box 0 Tryd.underlying23 rfl rfl rfl rfl) ?_)
        by_cases e4 : d.final = e.final
        · have hk29 := fun (w1 : World) (hI : Inv w [oI b2 25 [(.int .i64 e.vars), (.int .i64 e.start), (.slice nb2 e.next.length nc2), (.slice fb2 e.final.length fc2)], oI b1 25 [(.int .i64 d.vars), (.int .i64 d.start), (.slice nb1 d.next.length nc1), (.slice fb1 d.final.length fc1)]] w1) => equalBools w1 fb1 fb2 fc1 fc2 d.final e.final (hI.sl h1.final) (hI.sl h2.final) hbf
          refine TO.guarded rfl rfl rfl (l_call ent36 (CallT.of_pure hk29) rfl ?_)
          clear hk29
          rintro v O' ⟨N, rfl, rfl, rfl⟩
          rw [decide_eq_true e4]
          refine TO.quiet (q_pick1 rfl rfl) (TO.quiet (q_assign rfl) ?_)
          refine TO.nil (T.ret ?_)
          refine Res.one (.bool true) Tryd.results15 rfl ?_
          refine ⟨congrArg Value.bool (decide_eq_true ?_).symm, trivial⟩
          cases d; cases e; simp only at e1 e2 e3 e4; rw [e1, e2, e3, e4]
        have hk29 := fun (w1 : World) (hI : Inv w [oI b2 25 [(.int .i64 e.vars), (.int .i64 e.start), (.slice nb2 e.next.length nc2), (.slice fb2 e.final.length fc2)], oI b1 25 [(.int .i64 d.vars), (.int .i64 d.start), (.slice nb1 d.next.length nc1), (.slice fb1 d.final.length fc1)]] w1) => equalBools w1 fb1 fb2 fc1 fc2 d.final e.final (hI.sl h1.final) (hI.sl h2.final) hbf
        refine TO.guarded rfl rfl rfl (l_call ent36 (CallT.of_pure hk29) rfl ?_)
        clear hk29
        rintro v O' ⟨N, rfl, rfl, rfl⟩
        rw [decide_eq_false e4]
        refine TO.quiet (q_pick1 rfl rfl) (TO.quiet (q_assign rfl) ?_)
        refine TO.nil (T.ret ?_)
        refine Res.one (.bool false) Tryd.results15 rfl ?_
        exact ⟨congrArg Value.bool (decide_eq_false (fun q => e4 (congrArg DFA.final q))).symm, trivial⟩
      have hk22 := fun (w1 : World) (hI : Inv w [oI b2 25 [(.int .i64 e.vars), (.int .i64 e.start), (.slice nb2 e.next.length nc2), (.slice fb2 e.final.length fc2)], oI b1 25 [(.int .i64 d.vars), (.int .i64 d.start), (.slice nb1 d.next.length nc1), (.slice fb1 d.final.length fc1)]] w1) => equalRows w1 nb1 nb2 nc1 nc2 vs us d.next e.next (hI.sl h1.outer) (hI.rows h1.rows) (hI.sl h2.outer) (hI.rows h2.rows) hb hbr
      refine TO.guarded rfl rfl rfl (l_call ent45 (CallT.of_pure hk22) rfl ?_)
      clear hk22
      rintro v O' ⟨N, rfl, rfl, rfl⟩
      rw [decide_eq_false e3]
      refine TO.quiet (q_pick1 rfl rfl) (TO.quiet (q_move rfl) ?_)
      refine TO.passed rfl rfl ?_
      refine TO.passed rfl rfl ?_
      refine TO.passed rfl rfl ?_
      refine TO.passed rfl rfl ?_
      refine TO.passed rfl rfl ?_
      refine TO.quiet (q_pick0 rfl rfl) (TO.quiet (q_assign rfl) ?_)
      refine TO.nil (T.ret ?_)
      refine Res.one (.bool false) Tryd.results15 rfl ?_
      exact ⟨congrArg Value.bool (decide_eq_false (fun q => e3 (congrArg DFA.next q))).symm, trivial⟩
    refine TO.guarded rfl rfl rfl (LT.of_quiet rfl rfl (QT.toB (q_eql rfl rfl) (decide_eq_false e2)) ?_)
    refine TO.quiet (q_pick1 rfl rfl) (TO.quiet (q_move rfl) ?_)
    refine TO.passed rfl rfl ?_
    refine TO.passed rfl rfl ?_
    refine TO.passed rfl rfl ?_
    refine TO.passed rfl rfl ?_
    refine TO.passed rfl rfl ?_
    refine TO.quiet (q_pick0 rfl rfl) (TO.quiet (q_move rfl) ?_)
    refine TO.passed rfl rfl ?_
    refine TO.passed rfl rfl ?_
    refine TO.passed rfl rfl ?_
    refine TO.passed rfl rfl ?_
    refine TO.passed rfl rfl ?_
    refine TO.quiet (q_pick0 rfl rfl) (TO.quiet (q_assign rfl) ?_)
    refine TO.nil (T.ret ?_)
    refine Res.one (.bool false) Tryd.results15 rfl ?_
    exact ⟨congrArg Value.bool (decide_eq_false (fun q => e2 (congrArg DFA.start q))).symm, trivial⟩
  refine TO.quiet (QT.toB (q_eql rfl rfl) (decide_eq_false e1)) (TO.quiet (q_move rfl) ?_)
  refine TO.passed rfl rfl ?_
  refine TO.passed rfl rfl ?_
  refine TO.passed rfl rfl ?_
  refine TO.passed rfl rfl ?_
  refine TO.passed rfl rfl ?_
  refine TO.quiet (q_pick0 rfl rfl) (TO.quiet (q_move rfl) ?_)
  refine TO.passed rfl rfl ?_
  refine TO.passed rfl rfl ?_
  refine TO.passed rfl rfl ?_
  refine TO.passed rfl rfl ?_
  refine TO.passed rfl rfl ?_
  refine TO.quiet (q_pick0 rfl rfl) (TO.quiet (q_move rfl) ?_)
  refine TO.passed rfl rfl ?_
  refine TO.passed rfl rfl ?_
  refine TO.passed rfl rfl ?_
  refine TO.passed rfl rfl ?_
  refine TO.passed rfl rfl ?_
  refine TO.quiet (q_pick0 rfl rfl) (TO.quiet (q_assign rfl) ?_)
  refine TO.nil (T.ret ?_)
  refine Res.one (.bool false) Tryd.results15 rfl ?_
  exact ⟨congrArg Value.bool (decide_eq_false (fun q => e1 (congrArg DFA.vars q))).symm, trivial⟩
end Go.Proofs.YtdaapdamcekkgaaDoor


namespace Go.Proofs.YtdaapdamcekkgaaDoor
open Go.Lx Go.RowKit
set_option linter.unusedVariables false
set_option linter.unusedSimpArgs false
set_option maxHeartbeats 1000000 in
set_option maxRecDepth 20000 in
theorem varsF (w : World) (v : Int) : PureT Tryd.prog 64 [.int .i64 v] w fun x N => x = .bool (decide (0 ≤ v ∧ v ≤ 6)) ∧ N = [] := by
  refine CallT.enter Tryd.func64 rfl Tryd.ntmps64 rfl ?_
  refine T.seq (T.region ?_)
  refine TO.quiet (q_assign rfl) ?_
  refine TO.nil (T.seq (T.region ?_))
  refine TO.quiet (q_move rfl) ?_
  by_cases h4 : 0 ≤ v
  · refine TO.quiet (QT.toB (q_geq rfl rfl) (decide_eq_true h4)) ?_
    refine TO.quiet (q_move rfl) ?_
    refine TO.guarded rfl rfl rfl (LT.of_quiet rfl rfl (q_move rfl) ?_)
    by_cases h7 : v ≤ 6
    · refine TO.guarded rfl rfl rfl (LT.of_quiet rfl rfl (QT.toB (q_leq rfl rfl) (decide_eq_true h7)) ?_)
      refine TO.quiet (q_pick1 rfl rfl) (TO.quiet (q_assign rfl) ?_)
      refine TO.nil (T.ret ?_)
      refine Res.one (.bool true) Tryd.results64 rfl ?_
      exact ⟨by simp [h4, h7], rfl⟩
    refine TO.guarded rfl rfl rfl (LT.of_quiet rfl rfl (QT.toB (q_leq rfl rfl) (decide_eq_false h7)) ?_)
    refine TO.quiet (q_pick1 rfl rfl) (TO.quiet (q_assign rfl) ?_)
    refine TO.nil (T.ret ?_)
    refine Res.one (.bool false) Tryd.results64 rfl ?_
    exact ⟨by simp [h4, h7], rfl⟩
  refine TO.quiet (QT.toB (q_geq rfl rfl) (decide_eq_false h4)) (TO.quiet (q_move rfl) ?_)
  refine TO.passed rfl rfl ?_
  refine TO.passed rfl rfl ?_
  refine TO.quiet (q_pick0 rfl rfl) (TO.quiet (q_assign rfl) ?_)
  refine TO.nil (T.ret ?_)
  refine Res.one (.bool false) Tryd.results64 rfl ?_
  exact ⟨by simp [h4], rfl⟩
set_option maxHeartbeats 1000000 in
set_option maxRecDepth 20000 in
theorem lettersF (w : World) (v : Int) (h0 : 0 ≤ v) (h6 : v ≤ 6) : PureT Tryd.prog 62 [.int .i64 v] w fun x N => x = .int .i64 ((2 ^ v.toNat : Nat) : Int) ∧ N = [] := by
  refine CallT.enter Tryd.func62 rfl Tryd.ntmps62 rfl ?_
  refine T.seq (T.region ?_)
  refine TO.quiet (q_assign rfl) ?_
  refine TO.nil (T.seq (T.region ?_))
  refine TO.quiet (q_move rfl) (TO.quiet (q_conv_id Tryd.underlying3 Tryd.underlying114 rfl (show IntKind.u64.wrap v = v by unfold IntKind.wrap; simp [IntKind.bits, IntKind.signed]; omega)) (TO.quiet (q_shl1 (v := v.toNat) rfl (by show Value.int _ v = _; rw [Int.toNat_of_nonneg h0]) (by omega)) (TO.quiet (q_assign rfl) ?_)))
  refine TO.nil (T.ret ?_)
  refine Res.one (.int .i64 ((2 ^ v.toNat : Nat) : Int)) Tryd.results62 rfl ?_
  exact ⟨rfl, rfl⟩
set_option maxHeartbeats 1000000 in
set_option maxRecDepth 20000 in
theorem refCheck (w : World) (d : DFA) (nb fb : Option Addr) (nc fc : Nat) (vs : List Value) (h : DfaAt w d nb vs fb) (hb : d.next.length < 9223372036854775807) (hbr : ∀ r ∈ d.next, r.length < 9223372036854775807) (hbf : d.final.length < 9223372036854775807) :
    PureT Tryd.prog 37 [.agg (dfaCells d nb nc fb fc).toArray] w fun v N => v = .int .i64 (checkD d : Int) ∧ N = [] := by
  refine CallT.enter Tryd.func37 rfl Tryd.ntmps37 rfl ?_
  have hvl := h.rows.1
  refine T.seq (T.region ?_)
  refine TO.loud rfl (l_box (v := (.agg #[(.int .i64 d.vars), (.int .i64 d.start), (.slice nb d.next.length nc), (.slice fb d.final.length fc)])) (cs := [(.int .i64 d.vars), (.int .i64 d.start), (.slice nb d.next.length nc), (.slice fb d.final.length fc)]) rfl rfl (fun b1 => ?_))
  refine TO.quiet (q_assign rfl) ?_
  refine TO.nil (T.seq (T.region ?_))
  refine TO.quiet (q_fieldAddr Tryd.underlying25 rfl inf22 rfl rfl) (TO.quiet (q_load_box 0 Tryd.underlying22 rfl rfl rfl rfl) (TO.quiet (q_len Tryd.underlying22 rfl) (TO.quiet (q_assign rfl) ?_)))
  refine TO.nil (T.seq (T.seq (T.region ?_)))
  refine TO.quiet (q_fieldAddr Tryd.underlying25 rfl inf3 rfl rfl) (TO.quiet (q_load_box 0 Tryd.underlying3 rfl rfl rfl rfl) ?_)
  by_cases hv : 0 ≤ d.vars ∧ d.vars ≤ 6
  · have hk11 := fun (w1 : World) (hI : Inv w [oI b1 25 [(.int .i64 d.vars), (.int .i64 d.start), (.slice nb d.next.length nc), (.slice fb d.final.length fc)]] w1) => varsF w1 d.vars
    refine TO.loud rfl (l_call ent64 (CallT.of_pure hk11) rfl ?_)
    clear hk11
    rintro v O' ⟨N, rfl, rfl, rfl⟩
    rw [decide_eq_true hv]
    refine TO.quiet (q_not rfl) ?_
    refine TO.nil ?_
    refine T.cond0 rfl ?_
    refine T.skip (T.seq (T.seq (T.region ?_)))
    refine TO.quiet (q_move rfl) (TO.quiet (q_eql rfl rfl) ?_)
    refine TO.nil ?_
    refine T.condP rfl (fun hc => ?_) (fun hc => ?_)
    · have hlt14 : d.next.length = 0 := by omega
      refine T.seq (T.region ?_)
      refine TO.quiet (q_assign rfl) ?_
      refine TO.nil (T.ret (Res.drop ?_))
      refine Res.one (.int .i64 3) Tryd.results37 rfl ?_
      refine ⟨[], Sub.of (List.nil_sublist _), congrArg (fun z : Nat => Value.int .i64 (z : Int)) (show 3 = checkD d from Eq.symm ?_), rfl⟩
      unfold checkD
      rw [if_neg (by simp; exact hv), if_pos hlt14]
    have hge14 : ¬ d.next.length = 0 := by omega
    refine T.skip (T.seq (T.seq (T.region ?_)))
    refine TO.quiet (q_move rfl) (TO.quiet (q_gtr rfl rfl) ?_)
    refine TO.nil ?_
    refine T.condP rfl (fun hc => ?_) (fun hc => ?_)
    · have hlt16 : d.next.length > 4096 := by omega
      refine T.seq (T.region ?_)
      refine TO.quiet (q_assign rfl) ?_
      refine TO.nil (T.ret (Res.drop ?_))
      refine Res.one (.int .i64 4) Tryd.results37 rfl ?_
      refine ⟨[], Sub.of (List.nil_sublist _), congrArg (fun z : Nat => Value.int .i64 (z : Int)) (show 4 = checkD d from Eq.symm ?_), rfl⟩
      unfold checkD
      rw [if_neg (by simp; exact hv), if_neg hge14, if_pos hlt16]
    have hge16 : ¬ d.next.length > 4096 := by omega
    refine T.skip (T.seq (T.seq (T.region ?_)))
    refine TO.quiet (q_fieldAddr Tryd.underlying25 rfl inf23 rfl rfl) (TO.quiet (q_load_box 0 Tryd.underlying23 rfl rfl rfl rfl) (TO.quiet (q_len Tryd.underlying23 rfl) (TO.quiet (q_move rfl) ?_)))
    refine TO.quiet (q_neq rfl rfl) ?_
    refine TO.nil ?_
    refine T.condP rfl (fun hc => ?_) (fun hc => ?_)
    · have hlt21 : d.final.length ≠ d.next.length := by omega
      refine T.seq (T.region ?_)
      refine TO.quiet (q_assign rfl) ?_
      refine TO.nil (T.ret (Res.drop ?_))
      refine Res.one (.int .i64 2) Tryd.results37 rfl ?_
      refine ⟨[], Sub.of (List.nil_sublist _), congrArg (fun z : Nat => Value.int .i64 (z : Int)) (show 2 = checkD d from Eq.symm ?_), rfl⟩
      unfold checkD
      rw [if_neg (by simp; exact hv), if_neg hge14, if_neg hge16, if_pos hlt21]
    have hge21 : ¬ d.final.length ≠ d.next.length := by omega
    refine T.skip (T.seq (T.seq (T.region ?_)))
    refine TO.quiet (q_fieldAddr Tryd.underlying25 rfl inf3 rfl rfl) (TO.quiet (q_load_box 0 Tryd.underlying3 rfl rfl rfl rfl) ?_)
    by_cases hs0 : d.start < 0
    · refine TO.quiet (QT.toB (q_lss rfl rfl) (decide_eq_true hs0)) ?_
      refine TO.quiet (q_move rfl) ?_
      refine TO.passed rfl rfl ?_
      refine TO.passed rfl rfl ?_
      refine TO.passed rfl rfl ?_
      refine TO.passed rfl rfl ?_
      refine TO.quiet (q_pick1 rfl rfl) ?_
      refine TO.nil ?_
      refine T.cond1 rfl ?_
      refine T.seq (T.region ?_)
      refine TO.quiet (q_assign rfl) ?_
      refine TO.nil (T.ret (Res.drop ?_))
      refine Res.one (.int .i64 8) Tryd.results37 rfl ?_
      refine ⟨[], Sub.of (List.nil_sublist _), congrArg (fun z : Nat => Value.int .i64 (z : Int)) (show 8 = checkD d from Eq.symm ?_), rfl⟩
      unfold checkD
      rw [if_neg (by simp; exact hv), if_neg hge14, if_neg hge16, if_neg (by simpa using hge21), if_pos (.inl hs0)]
    refine TO.quiet (QT.toB (q_lss rfl rfl) (decide_eq_false hs0)) (TO.quiet (q_move rfl) ?_)
    refine TO.guarded rfl rfl rfl (LT.of_quiet rfl rfl (q_fieldAddr Tryd.underlying25 rfl inf3 rfl rfl) ?_)
    refine TO.guarded rfl rfl rfl (LT.of_quiet rfl rfl (q_load_box 0 Tryd.underlying3 rfl rfl rfl rfl) ?_)
    refine TO.guarded rfl rfl rfl (LT.of_quiet rfl rfl (q_move rfl) ?_)
    by_cases hs1 : (d.next.length : Int) ≤ d.start
    · refine TO.guarded rfl rfl rfl (LT.of_quiet rfl rfl (QT.toB (q_geq rfl rfl) (decide_eq_true hs1)) ?_)
      refine TO.quiet (q_pick0 rfl rfl) ?_
      refine TO.nil ?_
      refine T.cond1 rfl ?_
      refine T.seq (T.region ?_)
      refine TO.quiet (q_assign rfl) ?_
      refine TO.nil (T.ret (Res.drop ?_))
      refine Res.one (.int .i64 8) Tryd.results37 rfl ?_
      refine ⟨[], Sub.of (List.nil_sublist _), congrArg (fun z : Nat => Value.int .i64 (z : Int)) (show 8 = checkD d from Eq.symm ?_), rfl⟩
      unfold checkD
      rw [if_neg (by simp; exact hv), if_neg hge14, if_neg hge16, if_neg (by simpa using hge21), if_pos (.inr hs1)]
    refine TO.guarded rfl rfl rfl (LT.of_quiet rfl rfl (QT.toB (q_geq rfl rfl) (decide_eq_false hs1)) ?_)
    refine TO.quiet (q_pick0 rfl rfl) ?_
    refine TO.nil ?_
    refine T.cond0 rfl ?_
    refine T.skip (T.seq (T.seq (T.region ?_)))
    refine TO.quiet (q_assign rfl) ?_
    refine TO.nil (T.block ?_)
    refine T.loop (fun (k : Nat) ρ O => O = [oI b1 25 [(.int .i64 d.vars), (.int .i64 d.start), (.slice nb d.next.length nc), (.slice fb d.final.length fc)]] ∧ k ≤ d.next.length ∧ rowsE (2 ^ d.vars.toNat) d.next.length (d.next.drop k) = checkD d ∧ Heads [(0, (.agg #[(.int .i64 d.vars), (.int .i64 d.start), (.slice nb d.next.length nc), (.slice fb d.final.length fc)])), (1, (.pointer (some ⟨b1, 0, none⟩))), (3, .int .i64 (d.next.length : Int)), (4, .int .i64 (k : Int))] ρ) (fun k => d.next.length - k) 0 ?_ ?_
    · refine ⟨rfl, Nat.zero_le _, ?_, ⟨rfl, rfl, rfl, rfl, trivial⟩⟩
      unfold checkD
      rw [if_neg (by simp; exact hv), if_neg hge14, if_neg hge16, if_neg (by simp; omega), if_neg (by omega)]; rfl
    rintro k ρ O ⟨rfl, hk, hr, hH⟩
    obtain ⟨ρ0, rfl⟩ := hH.elim
    clear hH
    refine T.seq (T.seq (T.region ?_))
    refine TO.quiet (q_move rfl) (TO.quiet (q_move rfl) (TO.quiet (q_lss rfl rfl) ?_))
    refine TO.nil ?_
    refine T.condP rfl (fun hc => ?_) (fun hc => ?_)
    · have hlt33 : k < d.next.length := by omega
      obtain ⟨vb1, vc1, g1, s1⟩ := h.rows.get hlt33
      have hrl := hbr _ (List.getElem_mem hlt33)
      refine T.skip (T.seq (T.block (T.seq (T.seq ?_))))
      refine T.draws _ [(0, 0), (1, 0), (2, 0), (3, 0), (4, 0), (5, 0), (6, 0), (7, 0), (8, 1), (9, 0)] mixed (by kernel_rfl) (Sub.of (List.Sublist.refl _)) (fun _ _ _ h => h) ?_
      refine DO.quiet rfl (q_fieldAddr Tryd.underlying25 rfl inf22 rfl rfl) (DO.quiet rfl (q_load_box 0 Tryd.underlying22 rfl rfl rfl rfl) (DO.quiet rfl (q_move rfl) (DO.quiet rfl (q_ix (i := k) Tryd.underlying22 inf52 rfl rfl (Sl.o h.outer)) ?_)))
      refine DO.quiet rfl (q_ld Tryd.underlying52 rfl rfl (Sl.o h.outer) g1) (DO.quiet rfl (q_len Tryd.underlying52 rfl) (DO.quiet rfl (q_fieldAddr Tryd.underlying25 rfl inf3 rfl rfl) (DO.quiet rfl (q_load_box 0 Tryd.underlying3 rfl rfl rfl rfl) ?_)))
      have hk44 := fun (w1 : World) (hI : Inv w [oI b1 25 [(.int .i64 d.vars), (.int .i64 d.start), (.slice nb d.next.length nc), (.slice fb d.final.length fc)]] w1) => lettersF w1 d.vars hv.1 hv.2
      refine DO.loud rfl rfl (l_call ent62 (CallT.of_pure hk44) rfl ?_)
      clear hk44
      rintro v O' ⟨N, rfl, rfl, rfl⟩
      refine ⟨Sub.pick [0] rfl, ?_⟩
      refine DO.quiet rfl (q_neq rfl rfl) ?_
      refine DO.done ?_
      refine T.condP rfl (fun hc => ?_) (fun hc => ?_)
      · have hlt45 : d.next[k].length ≠ 2 ^ d.vars.toNat := by omega
        refine T.seq (T.region ?_)
        refine TO.quiet (q_assign rfl) ?_
        refine TO.nil (T.ret (Res.drop ?_))
        refine Res.one (.int .i64 2) Tryd.results37 rfl ?_
        refine ⟨[], Sub.of (List.nil_sublist _), congrArg (fun z : Nat => Value.int .i64 (z : Int)) (show 2 = checkD d from Eq.symm ?_), rfl⟩
        rw [← hr, rowsE_at hlt33, if_pos hlt45]
      have hge45 : ¬ d.next[k].length ≠ 2 ^ d.vars.toNat := by omega
      refine T.skip (T.seq (T.region ?_))
      refine TO.quiet (q_assign rfl) ?_
      refine TO.nil (T.block ?_)
      refine T.loop (fun (j : Nat) ρ O => O = [oI b1 25 [(.int .i64 d.vars), (.int .i64 d.start), (.slice nb d.next.length nc), (.slice fb d.final.length fc)]] ∧ j ≤ d.next[k].length ∧ rowOk d.next.length (d.next[k].take j) = true ∧ Heads [(0, (.agg #[(.int .i64 d.vars), (.int .i64 d.start), (.slice nb d.next.length nc), (.slice fb d.final.length fc)])), (1, (.pointer (some ⟨b1, 0, none⟩))), (3, .int .i64 (d.next.length : Int)), (4, .int .i64 (k : Int)), (5, .int .i64 (j : Int))] ρ) (fun j => d.next[k].length - j) 0 ?_ ?_
      · exact ⟨rfl, Nat.zero_le _, rfl, ⟨rfl, rfl, rfl, rfl, rfl, trivial⟩⟩
      rintro j ρ O ⟨rfl, hj, hok, hH⟩
      obtain ⟨ρ0, rfl⟩ := hH.elim
      clear hH
      refine T.seq (T.seq (T.region ?_))
      refine TO.quiet (q_move rfl) (TO.quiet (q_fieldAddr Tryd.underlying25 rfl inf22 rfl rfl) (TO.quiet (q_load_box 0 Tryd.underlying22 rfl rfl rfl rfl) (TO.quiet (q_move rfl) ?_)))
      refine TO.quiet (q_ix (i := k) Tryd.underlying22 inf52 rfl rfl (Sl.o h.outer)) (TO.quiet (q_ld Tryd.underlying52 rfl rfl (Sl.o h.outer) g1) (TO.quiet (q_len Tryd.underlying52 rfl) (TO.quiet (q_lss rfl rfl) ?_)))
      refine TO.nil ?_
      refine T.condP rfl (fun hc => ?_) (fun hc => ?_)
      · have hlt53 : j < d.next[k].length := by omega
        refine T.skip (T.seq (T.block (T.seq (T.region ?_))))
        refine TO.quiet (q_fieldAddr Tryd.underlying25 rfl inf22 rfl rfl) (TO.quiet (q_load_box 0 Tryd.underlying22 rfl rfl rfl rfl) (TO.quiet (q_move rfl) (TO.quiet (q_ix (i := k) Tryd.underlying22 inf52 rfl rfl (Sl.o h.outer)) ?_)))
        refine TO.quiet (q_ld Tryd.underlying52 rfl rfl (Sl.o h.outer) g1) (TO.quiet (q_move rfl) (TO.quiet (q_ix (i := j) Tryd.underlying52 inf3 rfl rfl (Sl.o s1)) (TO.quiet (q_ld Tryd.underlying3 rfl rfl (Sl.o s1) ints_get) ?_)))
        by_cases he0 : d.next[k][j] < 0
        · refine TO.quiet (QT.toB (q_lss rfl rfl) (decide_eq_true he0)) ?_
          refine TO.quiet (q_move rfl) ?_
          refine TO.passed rfl rfl ?_
          refine TO.passed rfl rfl ?_
          refine TO.passed rfl rfl ?_
          refine TO.passed rfl rfl ?_
          refine TO.passed rfl rfl ?_
          refine TO.passed rfl rfl ?_
          refine TO.passed rfl rfl ?_
          refine TO.passed rfl rfl ?_
          refine TO.passed rfl rfl ?_
          refine TO.passed rfl rfl ?_
          refine TO.quiet (q_pick1 rfl rfl) ?_
          refine TO.nil ?_
          refine T.cond1 rfl ?_
          refine T.seq (T.region ?_)
          refine TO.quiet (q_assign rfl) ?_
          refine TO.nil (T.ret (Res.drop ?_))
          refine Res.one (.int .i64 8) Tryd.results37 rfl ?_
          refine ⟨[], Sub.of (List.nil_sublist _), congrArg (fun z : Nat => Value.int .i64 (z : Int)) (show 8 = checkD d from Eq.symm ?_), rfl⟩
          rw [← hr, rowsE_at hlt33, if_neg (by simpa using hge45), if_neg (rowOk_bad hlt53 (.inl he0))]
        refine TO.quiet (QT.toB (q_lss rfl rfl) (decide_eq_false he0)) (TO.quiet (q_move rfl) ?_)
        refine TO.guarded rfl rfl rfl (LT.of_quiet rfl rfl (q_fieldAddr Tryd.underlying25 rfl inf22 rfl rfl) ?_)
        refine TO.guarded rfl rfl rfl (LT.of_quiet rfl rfl (q_load_box 0 Tryd.underlying22 rfl rfl rfl rfl) ?_)
        refine TO.guarded rfl rfl rfl (LT.of_quiet rfl rfl (q_move rfl) ?_)
        refine TO.guarded rfl rfl rfl (LT.of_quiet rfl rfl (q_ix (i := k) Tryd.underlying22 inf52 rfl rfl (Sl.o h.outer)) ?_)
        refine TO.guarded rfl rfl rfl (LT.of_quiet rfl rfl (q_ld Tryd.underlying52 rfl rfl (Sl.o h.outer) g1) ?_)
        refine TO.guarded rfl rfl rfl (LT.of_quiet rfl rfl (q_move rfl) ?_)
        refine TO.guarded rfl rfl rfl (LT.of_quiet rfl rfl (q_ix (i := j) Tryd.underlying52 inf3 rfl rfl (Sl.o s1)) ?_)
        refine TO.guarded rfl rfl rfl (LT.of_quiet rfl rfl (q_ld Tryd.underlying3 rfl rfl (Sl.o s1) ints_get) ?_)
        refine TO.guarded rfl rfl rfl (LT.of_quiet rfl rfl (q_move rfl) ?_)
        by_cases he1 : (d.next.length : Int) ≤ d.next[k][j]
        · refine TO.guarded rfl rfl rfl (LT.of_quiet rfl rfl (QT.toB (q_geq rfl rfl) (decide_eq_true he1)) ?_)
          refine TO.quiet (q_pick0 rfl rfl) ?_
          refine TO.nil ?_
          refine T.cond1 rfl ?_
          refine T.seq (T.region ?_)
          refine TO.quiet (q_assign rfl) ?_
          refine TO.nil (T.ret (Res.drop ?_))
          refine Res.one (.int .i64 8) Tryd.results37 rfl ?_
          refine ⟨[], Sub.of (List.nil_sublist _), congrArg (fun z : Nat => Value.int .i64 (z : Int)) (show 8 = checkD d from Eq.symm ?_), rfl⟩
          rw [← hr, rowsE_at hlt33, if_neg (by simpa using hge45), if_neg (rowOk_bad hlt53 (.inr he1))]
        refine TO.guarded rfl rfl rfl (LT.of_quiet rfl rfl (QT.toB (q_geq rfl rfl) (decide_eq_false he1)) ?_)
        refine TO.quiet (q_pick0 rfl rfl) ?_
        refine TO.nil ?_
        refine T.cond0 rfl ?_
        refine T.skip (T.region ?_)
        refine TO.quiet (q_move rfl) (TO.quiet (q_inc rfl rfl (by omega)) (TO.quiet (q_assign rfl) ?_))
        refine TO.nil ?_
        exact ⟨j + 1, by omega, rfl, by omega, rowOk_step hlt53 hok he0 he1, ⟨rfl, rfl, rfl, rfl, rfl, trivial⟩⟩
      have hge53 : ¬ j < d.next[k].length := by omega
      refine T.exit ?_
      refine T.region ?_
      refine TO.quiet (q_move rfl) (TO.quiet (q_inc rfl rfl (by omega)) (TO.quiet (q_assign rfl) ?_))
      refine TO.nil ?_
      refine ⟨k + 1, by omega, rfl, by omega, ?_, ⟨rfl, rfl, rfl, rfl, trivial⟩⟩
      rw [← hr, rowsE_at hlt33, if_neg (by simpa using hge45), if_pos (rowOk_full (by omega) hok)]
    have hge33 : ¬ k < d.next.length := by omega
    refine T.exit ?_
    refine T.seq (T.region ?_)
    refine TO.quiet (q_assign rfl) ?_
    refine TO.nil (T.ret (Res.drop ?_))
    refine Res.one (.int .i64 0) Tryd.results37 rfl ?_
    refine ⟨[], Sub.of (List.nil_sublist _), congrArg (fun z : Nat => Value.int .i64 (z : Int)) (show 0 = checkD d from Eq.symm ?_), rfl⟩
    rw [← hr, rowsE_end (by omega)]
  have hk11 := fun (w1 : World) (hI : Inv w [oI b1 25 [(.int .i64 d.vars), (.int .i64 d.start), (.slice nb d.next.length nc), (.slice fb d.final.length fc)]] w1) => varsF w1 d.vars
  refine TO.loud rfl (l_call ent64 (CallT.of_pure hk11) rfl ?_)
  clear hk11
  rintro v O' ⟨N, rfl, rfl, rfl⟩
  rw [decide_eq_false hv]
  refine TO.quiet (q_not rfl) ?_
  refine TO.nil ?_
  refine T.cond1 rfl ?_
  refine T.seq (T.region ?_)
  refine TO.quiet (q_assign rfl) ?_
  refine TO.nil (T.ret (Res.drop ?_))
  refine Res.one (.int .i64 7) Tryd.results37 rfl ?_
  refine ⟨[], Sub.of (List.nil_sublist _), congrArg (fun z : Nat => Value.int .i64 (z : Int)) (show 7 = checkD d from Eq.symm ?_), rfl⟩
  unfold checkD
  rw [if_pos hv]
set_option maxHeartbeats 1000000 in
set_option maxRecDepth 20000 in
theorem slicesMin (w : World) (b : Option Addr) (c : Nat) (xs : List Int) (h : Sl w b (ints xs)) (h0 : 0 < xs.length) (hb : xs.length < 9223372036854775807) : PureT Tryd.prog 51 [.slice b xs.length c] w fun v N => (∃ m, v = .int .i64 m ∧ m ∈ xs ∧ ∀ x ∈ xs, m ≤ x) ∧ N = [] := by
  refine CallT.enter Tryd.func51 rfl Tryd.ntmps51 rfl ?_
  refine T.seq (T.region ?_)
  refine TO.quiet (q_assign rfl) ?_
  refine TO.nil (T.seq (T.seq (T.region ?_)))
  refine TO.quiet (q_move rfl) (TO.quiet (q_len Tryd.underlying52 rfl) (TO.quiet (q_lss rfl rfl) ?_))
  refine TO.nil ?_
  refine T.condP rfl (fun hc => ?_) (fun hc => ?_)
  · exact absurd hc (by omega)
  have hge7 : ¬ xs.length < 1 := by omega
  refine T.skip (T.seq (T.region ?_))
  refine TO.quiet (q_move rfl) (TO.quiet (q_ix (i := 0) Tryd.underlying52 inf3 rfl rfl (Sl.o h)) (TO.quiet (q_ld Tryd.underlying3 rfl rfl (Sl.o h) ints_get) (TO.quiet (q_assign rfl) ?_)))
  refine TO.nil (T.seq (T.seq (T.region ?_)))
  refine TO.quiet (q_assign rfl) ?_
  refine TO.nil (T.block ?_)
  refine T.loop (fun (k : Nat) ρ O => ∃ (m : Int), O = [] ∧ 1 ≤ k ∧ k ≤ xs.length ∧ m ∈ xs.take k ∧ (∀ x ∈ xs.take k, m ≤ x) ∧ Heads [(0, (.slice b xs.length c)), (2, .int .i64 0), (3, .int .i64 m), (4, .int .i64 (k : Int))] ρ) (fun k => xs.length - k) 1 ?_ ?_
  · refine ⟨xs[0], rfl, Nat.le_refl _, h0, ?_, ?_, ⟨rfl, rfl, rfl, rfl, trivial⟩⟩
    · show xs[0] ∈ xs.take (0 + 1)
      rw [List.take_succ_eq_append_getElem h0]; simp
    · show ∀ x ∈ xs.take (0 + 1), _
      rw [List.take_succ_eq_append_getElem h0]; simp
  rintro k ρ O ⟨m, rfl, hk1, hk, hm, hall, hH⟩
  obtain ⟨ρ0, rfl⟩ := hH.elim
  clear hH
  refine T.seq (T.seq (T.region ?_))
  refine TO.quiet (q_move rfl) (TO.quiet (q_move rfl) (TO.quiet (q_len Tryd.underlying52 rfl) (TO.quiet (q_lss rfl rfl) ?_)))
  refine TO.nil ?_
  refine T.condP rfl (fun hc => ?_) (fun hc => ?_)
  · have hlt15 : k < xs.length := by omega
    refine T.skip (T.seq (T.block (T.region ?_)))
    refine TO.quiet (q_move rfl) (TO.quiet (q_move rfl) (TO.quiet (q_move rfl) (TO.quiet (q_ix (i := k) Tryd.underlying52 inf3 rfl rfl (Sl.o h)) ?_)))
    refine TO.quiet (q_ld Tryd.underlying3 rfl rfl (Sl.o h) ints_get) (TO.quiet (q_min rfl rfl) (TO.quiet (q_assign rfl) ?_))
    refine TO.nil (T.region ?_)
    refine TO.quiet (q_move rfl) (TO.quiet (q_inc rfl rfl (by omega)) (TO.quiet (q_assign rfl) ?_))
    refine TO.nil ?_
    refine ⟨k + 1, by omega, if xs[k] < m then xs[k] else m, rfl, by omega, by omega, ?_, ?_, ⟨rfl, rfl, rfl, rfl, trivial⟩⟩
    · rw [List.take_succ_eq_append_getElem hlt15]; split
      · exact List.mem_append_right _ (List.mem_singleton.2 rfl)
      · exact List.mem_append_left _ hm
    · rw [List.take_succ_eq_append_getElem hlt15]
      intro x hx
      rcases List.mem_append.1 hx with hx | hx
      · have := hall x hx; split <;> omega
      · rw [List.mem_singleton] at hx; subst hx; split <;> omega
  have hge15 : ¬ k < xs.length := by omega
  refine T.exit ?_
  refine T.seq (T.region ?_)
  refine TO.quiet (q_move rfl) (TO.quiet (q_assign rfl) ?_)
  refine TO.nil (T.ret ?_)
  refine Res.one (.int .i64 m) Tryd.results51 rfl ?_
  rw [List.take_of_length_le (by omega)] at hm hall
  exact ⟨⟨m, rfl, hm, hall⟩, rfl⟩
set_option maxHeartbeats 1000000 in
set_option maxRecDepth 20000 in
theorem slicesMax (w : World) (b : Option Addr) (c : Nat) (xs : List Int) (h : Sl w b (ints xs)) (h0 : 0 < xs.length) (hb : xs.length < 9223372036854775807) : PureT Tryd.prog 52 [.slice b xs.length c] w fun v N => (∃ m, v = .int .i64 m ∧ m ∈ xs ∧ ∀ x ∈ xs, x ≤ m) ∧ N = [] := by
  refine CallT.enter Tryd.func52 rfl Tryd.ntmps52 rfl ?_
  refine T.seq (T.region ?_)
  refine TO.quiet (q_assign rfl) ?_
  refine TO.nil (T.seq (T.seq (T.region ?_)))
  refine TO.quiet (q_move rfl) (TO.quiet (q_len Tryd.underlying52 rfl) (TO.quiet (q_lss rfl rfl) ?_))
  refine TO.nil ?_
  refine T.condP rfl (fun hc => ?_) (fun hc => ?_)
  · exact absurd hc (by omega)
  have hge7 : ¬ xs.length < 1 := by omega
  refine T.skip (T.seq (T.region ?_))
  refine TO.quiet (q_move rfl) (TO.quiet (q_ix (i := 0) Tryd.underlying52 inf3 rfl rfl (Sl.o h)) (TO.quiet (q_ld Tryd.underlying3 rfl rfl (Sl.o h) ints_get) (TO.quiet (q_assign rfl) ?_)))
  refine TO.nil (T.seq (T.seq (T.region ?_)))
  refine TO.quiet (q_assign rfl) ?_
  refine TO.nil (T.block ?_)
  refine T.loop (fun (k : Nat) ρ O => ∃ (m : Int), O = [] ∧ 1 ≤ k ∧ k ≤ xs.length ∧ m ∈ xs.take k ∧ (∀ x ∈ xs.take k, x ≤ m) ∧ Heads [(0, (.slice b xs.length c)), (2, .int .i64 0), (3, .int .i64 m), (4, .int .i64 (k : Int))] ρ) (fun k => xs.length - k) 1 ?_ ?_
  · refine ⟨xs[0], rfl, Nat.le_refl _, h0, ?_, ?_, ⟨rfl, rfl, rfl, rfl, trivial⟩⟩
    · show xs[0] ∈ xs.take (0 + 1)
      rw [List.take_succ_eq_append_getElem h0]; simp
    · show ∀ x ∈ xs.take (0 + 1), _
      rw [List.take_succ_eq_append_getElem h0]; simp
  rintro k ρ O ⟨m, rfl, hk1, hk, hm, hall, hH⟩
  obtain ⟨ρ0, rfl⟩ := hH.elim
  clear hH
  refine T.seq (T.seq (T.region ?_))
  refine TO.quiet (q_move rfl) (TO.quiet (q_move rfl) (TO.quiet (q_len Tryd.underlying52 rfl) (TO.quiet (q_lss rfl rfl) ?_)))
  refine TO.nil ?_
  refine T.condP rfl (fun hc => ?_) (fun hc => ?_)
  · have hlt15 : k < xs.length := by omega
    refine T.skip (T.seq (T.block (T.region ?_)))
    refine TO.quiet (q_move rfl) (TO.quiet (q_move rfl) (TO.quiet (q_move rfl) (TO.quiet (q_ix (i := k) Tryd.underlying52 inf3 rfl rfl (Sl.o h)) ?_)))
    refine TO.quiet (q_ld Tryd.underlying3 rfl rfl (Sl.o h) ints_get) (TO.quiet (q_max rfl rfl) (TO.quiet (q_assign rfl) ?_))
    refine TO.nil (T.region ?_)
    refine TO.quiet (q_move rfl) (TO.quiet (q_inc rfl rfl (by omega)) (TO.quiet (q_assign rfl) ?_))
    refine TO.nil ?_
    refine ⟨k + 1, by omega, if xs[k] > m then xs[k] else m, rfl, by omega, by omega, ?_, ?_, ⟨rfl, rfl, rfl, rfl, trivial⟩⟩
    · rw [List.take_succ_eq_append_getElem hlt15]; split
      · exact List.mem_append_right _ (List.mem_singleton.2 rfl)
      · exact List.mem_append_left _ hm
    · rw [List.take_succ_eq_append_getElem hlt15]
      intro x hx
      rcases List.mem_append.1 hx with hx | hx
      · have := hall x hx; split <;> omega
      · rw [List.mem_singleton] at hx; subst hx; split <;> omega
  have hge15 : ¬ k < xs.length := by omega
  refine T.exit ?_
  refine T.seq (T.region ?_)
  refine TO.quiet (q_move rfl) (TO.quiet (q_assign rfl) ?_)
  refine TO.nil (T.ret ?_)
  refine Res.one (.int .i64 m) Tryd.results52 rfl ?_
  rw [List.take_of_length_le (by omega)] at hm hall
  exact ⟨⟨m, rfl, hm, hall⟩, rfl⟩
set_option maxHeartbeats 1000000 in
set_option maxRecDepth 20000 in
theorem subsetCheck (w : World) (d : DFA) (nb fb : Option Addr) (nc fc : Nat) (vs : List Value) (h : DfaAt w d nb vs fb) (hb : d.next.length < 9223372036854775807) (hbr : ∀ r ∈ d.next, r.length < 9223372036854775807) (hbf : d.final.length < 9223372036854775807) :
    PureT Tryd.prog 20 [.agg (dfaCells d nb nc fb fc).toArray] w fun v N => v = .int .i64 (checkD d : Int) ∧ N = [] := by
  refine CallT.enter Tryd.func20 rfl Tryd.ntmps20 rfl ?_
  have hvl := h.rows.1
  refine T.seq (T.region ?_)
  refine TO.loud rfl (l_box (v := (.agg #[(.int .i64 d.vars), (.int .i64 d.start), (.slice nb d.next.length nc), (.slice fb d.final.length fc)])) (cs := [(.int .i64 d.vars), (.int .i64 d.start), (.slice nb d.next.length nc), (.slice fb d.final.length fc)]) rfl rfl (fun b1 => ?_))
  refine TO.quiet (q_assign rfl) ?_
  refine TO.nil (T.seq (T.region ?_))
  refine TO.quiet (q_fieldAddr Tryd.underlying25 rfl inf22 rfl rfl) (TO.quiet (q_load_box 0 Tryd.underlying22 rfl rfl rfl rfl) (TO.quiet (q_len Tryd.underlying22 rfl) (TO.quiet (q_assign rfl) ?_)))
  refine TO.nil (T.seq (T.block (T.seq (T.region ?_))))
  refine TO.quiet (q_fieldAddr Tryd.underlying25 rfl inf3 rfl rfl) (TO.quiet (q_load_box 0 Tryd.underlying3 rfl rfl rfl rfl) ?_)
  by_cases hv0 : d.vars < 0
  · refine TO.quiet (QT.toB (q_lss rfl rfl) (decide_eq_true hv0)) ?_
    refine TO.quiet (q_move rfl) ?_
    refine TO.passed rfl rfl ?_
    refine TO.passed rfl rfl ?_
    refine TO.passed rfl rfl ?_
    refine TO.quiet (q_pick1 rfl rfl) (TO.quiet (q_assign rfl) ?_)
    refine TO.nil ?_
    refine T.cond1 rfl ?_
    refine T.seq (T.region ?_)
    refine TO.quiet (q_assign rfl) ?_
    refine TO.nil (T.ret (Res.drop ?_))
    refine Res.one (.int .i64 7) Tryd.results20 rfl ?_
    refine ⟨[], Sub.of (List.nil_sublist _), congrArg (fun z : Nat => Value.int .i64 (z : Int)) (show 7 = checkD d from Eq.symm ?_), rfl⟩
    unfold checkD
    rw [if_pos (by omega)]
  refine TO.quiet (QT.toB (q_lss rfl rfl) (decide_eq_false hv0)) (TO.quiet (q_move rfl) ?_)
  refine TO.guarded rfl rfl rfl (LT.of_quiet rfl rfl (q_fieldAddr Tryd.underlying25 rfl inf3 rfl rfl) ?_)
  refine TO.guarded rfl rfl rfl (LT.of_quiet rfl rfl (q_load_box 0 Tryd.underlying3 rfl rfl rfl rfl) ?_)
  by_cases hv6 : 6 < d.vars
  · refine TO.guarded rfl rfl rfl (LT.of_quiet rfl rfl (QT.toB (q_gtr rfl rfl) (decide_eq_true hv6)) ?_)
    refine TO.quiet (q_pick0 rfl rfl) (TO.quiet (q_assign rfl) ?_)
    refine TO.nil ?_
    refine T.cond1 rfl ?_
    refine T.seq (T.region ?_)
    refine TO.quiet (q_assign rfl) ?_
    refine TO.nil (T.ret (Res.drop ?_))
    refine Res.one (.int .i64 7) Tryd.results20 rfl ?_
    refine ⟨[], Sub.of (List.nil_sublist _), congrArg (fun z : Nat => Value.int .i64 (z : Int)) (show 7 = checkD d from Eq.symm ?_), rfl⟩
    unfold checkD
    rw [if_pos (by omega)]
  refine TO.guarded rfl rfl rfl (LT.of_quiet rfl rfl (QT.toB (q_gtr rfl rfl) (decide_eq_false hv6)) ?_)
  refine TO.quiet (q_pick0 rfl rfl) (TO.quiet (q_assign rfl) ?_)
  refine TO.nil ?_
  refine T.cond0 rfl ?_
  refine T.seq (T.region ?_)
  refine TO.quiet (q_move rfl) (TO.quiet (q_eql rfl rfl) (TO.quiet (q_assign rfl) ?_))
  refine TO.nil ?_
  refine T.condP rfl (fun hc => ?_) (fun hc => ?_)
  · have hlt18 : d.next.length = 0 := by omega
    refine T.seq (T.region ?_)
    refine TO.quiet (q_assign rfl) ?_
    refine TO.nil (T.ret (Res.drop ?_))
    refine Res.one (.int .i64 3) Tryd.results20 rfl ?_
    refine ⟨[], Sub.of (List.nil_sublist _), congrArg (fun z : Nat => Value.int .i64 (z : Int)) (show 3 = checkD d from Eq.symm ?_), rfl⟩
    unfold checkD
    rw [if_neg (by simp; omega), if_pos hlt18]
  have hge18 : ¬ d.next.length = 0 := by omega
  refine T.seq (T.region ?_)
  refine TO.quiet (q_move rfl) (TO.quiet (q_gtr rfl rfl) (TO.quiet (q_assign rfl) ?_))
  refine TO.nil ?_
  refine T.condP rfl (fun hc => ?_) (fun hc => ?_)
  · have hlt21 : d.next.length > 4096 := by omega
    refine T.seq (T.region ?_)
    refine TO.quiet (q_assign rfl) ?_
    refine TO.nil (T.ret (Res.drop ?_))
    refine Res.one (.int .i64 4) Tryd.results20 rfl ?_
    refine ⟨[], Sub.of (List.nil_sublist _), congrArg (fun z : Nat => Value.int .i64 (z : Int)) (show 4 = checkD d from Eq.symm ?_), rfl⟩
    unfold checkD
    rw [if_neg (by simp; omega), if_neg hge18, if_pos hlt21]
  have hge21 : ¬ d.next.length > 4096 := by omega
  refine T.seq (T.region ?_)
  refine TO.quiet (q_fieldAddr Tryd.underlying25 rfl inf23 rfl rfl) (TO.quiet (q_load_box 0 Tryd.underlying23 rfl rfl rfl rfl) (TO.quiet (q_len Tryd.underlying23 rfl) (TO.quiet (q_move rfl) ?_)))
  refine TO.quiet (q_neq rfl rfl) (TO.quiet (q_assign rfl) ?_)
  refine TO.nil ?_
  refine T.condP rfl (fun hc => ?_) (fun hc => ?_)
  · have hlt24 : d.final.length ≠ d.next.length := by omega
    refine T.seq (T.region ?_)
    refine TO.quiet (q_assign rfl) ?_
    refine TO.nil (T.ret (Res.drop ?_))
    refine Res.one (.int .i64 2) Tryd.results20 rfl ?_
    refine ⟨[], Sub.of (List.nil_sublist _), congrArg (fun z : Nat => Value.int .i64 (z : Int)) (show 2 = checkD d from Eq.symm ?_), rfl⟩
    unfold checkD
    rw [if_neg (by simp; omega), if_neg hge18, if_neg hge21, if_pos hlt24]
  have hge24 : ¬ d.final.length ≠ d.next.length := by omega
  refine T.seq (T.region ?_)
  refine TO.quiet (q_fieldAddr Tryd.underlying25 rfl inf3 rfl rfl) (TO.quiet (q_load_box 0 Tryd.underlying3 rfl rfl rfl rfl) ?_)
  by_cases hs0 : d.start < 0
  · refine TO.quiet (QT.toB (q_lss rfl rfl) (decide_eq_true hs0)) ?_
    refine TO.quiet (q_move rfl) ?_
    refine TO.passed rfl rfl ?_
    refine TO.passed rfl rfl ?_
    refine TO.passed rfl rfl ?_
    refine TO.passed rfl rfl ?_
    refine TO.quiet (q_pick1 rfl rfl) (TO.quiet (q_assign rfl) ?_)
    refine TO.nil ?_
    refine T.cond1 rfl ?_
    refine T.seq (T.region ?_)
    refine TO.quiet (q_assign rfl) ?_
    refine TO.nil (T.ret (Res.drop ?_))
    refine Res.one (.int .i64 8) Tryd.results20 rfl ?_
    refine ⟨[], Sub.of (List.nil_sublist _), congrArg (fun z : Nat => Value.int .i64 (z : Int)) (show 8 = checkD d from Eq.symm ?_), rfl⟩
    unfold checkD
    rw [if_neg (by simp; omega), if_neg hge18, if_neg hge21, if_neg (by simpa using hge24), if_pos (by omega)]
  refine TO.quiet (QT.toB (q_lss rfl rfl) (decide_eq_false hs0)) (TO.quiet (q_move rfl) ?_)
  refine TO.guarded rfl rfl rfl (LT.of_quiet rfl rfl (q_fieldAddr Tryd.underlying25 rfl inf3 rfl rfl) ?_)
  refine TO.guarded rfl rfl rfl (LT.of_quiet rfl rfl (q_load_box 0 Tryd.underlying3 rfl rfl rfl rfl) ?_)
  refine TO.guarded rfl rfl rfl (LT.of_quiet rfl rfl (q_move rfl) ?_)
  by_cases hs1 : (d.next.length : Int) ≤ d.start
  · refine TO.guarded rfl rfl rfl (LT.of_quiet rfl rfl (QT.toB (q_geq rfl rfl) (decide_eq_true hs1)) ?_)
    refine TO.quiet (q_pick0 rfl rfl) (TO.quiet (q_assign rfl) ?_)
    refine TO.nil ?_
    refine T.cond1 rfl ?_
    refine T.seq (T.region ?_)
    refine TO.quiet (q_assign rfl) ?_
    refine TO.nil (T.ret (Res.drop ?_))
    refine Res.one (.int .i64 8) Tryd.results20 rfl ?_
    refine ⟨[], Sub.of (List.nil_sublist _), congrArg (fun z : Nat => Value.int .i64 (z : Int)) (show 8 = checkD d from Eq.symm ?_), rfl⟩
    unfold checkD
    rw [if_neg (by simp; omega), if_neg hge18, if_neg hge21, if_neg (by simpa using hge24), if_pos (by omega)]
  refine TO.guarded rfl rfl rfl (LT.of_quiet rfl rfl (QT.toB (q_geq rfl rfl) (decide_eq_false hs1)) ?_)
  refine TO.quiet (q_pick0 rfl rfl) (TO.quiet (q_assign rfl) ?_)
  refine TO.nil ?_
  refine T.cond0 rfl ?_
  refine T.skip (T.seq (T.seq (T.region ?_)))
  refine TO.quiet (q_fieldAddr Tryd.underlying25 rfl inf22 rfl rfl) (TO.quiet (q_load_box 0 Tryd.underlying22 rfl rfl rfl rfl) (TO.quiet (q_len Tryd.underlying22 rfl) (TO.quiet (q_move rfl) ?_)))
  refine TO.nil (T.block ?_)
  refine T.loop (fun (k : Nat) ρ O => O = [oI b1 25 [(.int .i64 d.vars), (.int .i64 d.start), (.slice nb d.next.length nc), (.slice fb d.final.length fc)]] ∧ k ≤ d.next.length ∧ rowsE (2 ^ d.vars.toNat) d.next.length (d.next.drop k) = checkD d ∧ Heads [(0, (.agg #[(.int .i64 d.vars), (.int .i64 d.start), (.slice nb d.next.length nc), (.slice fb d.final.length fc)])), (1, (.pointer (some ⟨b1, 0, none⟩))), (3, .int .i64 (d.next.length : Int)), (9, .bool false), (18, .bool (decide ((d.next.length : Int) = 0))), (21, .bool (decide ((d.next.length : Int) > 4096))), (24, .bool (decide ((d.final.length : Int) ≠ (d.next.length : Int)))), (30, .bool false), (41, (.slice nb d.next.length nc)), (42, .int .i64 (d.next.length : Int)), (43, .int .i64 (k : Int))] ρ) (fun k => d.next.length - k) 0 ?_ ?_
  · refine ⟨rfl, Nat.zero_le _, ?_, ⟨rfl, rfl, rfl, rfl, rfl, rfl, rfl, rfl, rfl, rfl, rfl, trivial⟩⟩
    unfold checkD
    rw [if_neg (by simp; omega), if_neg hge18, if_neg hge21, if_neg (by simpa using hge24), if_neg (by omega)]; rfl
  rintro k ρ O ⟨rfl, hk, hr, hH⟩
  obtain ⟨ρ0, rfl⟩ := hH.elim
  clear hH
  refine T.seq (T.region ?_)
  refine TO.quiet (q_lss rfl rfl) ?_
  refine TO.nil (T.seq ?_)
  refine T.condP rfl (fun hc => ?_) (fun hc => ?_)
  · have hlt44 : k < d.next.length := by omega
    obtain ⟨vb1, vc1, g1, s1⟩ := h.rows.get hlt44
    have hrl := hbr _ (List.getElem_mem hlt44)
    refine T.skip (T.seq (T.block (T.seq (T.region ?_))))
    refine TO.quiet (q_ix (i := k) Tryd.underlying22 inf52 rfl rfl (Sl.o h.outer)) (TO.quiet (q_ld Tryd.underlying52 rfl rfl (Sl.o h.outer) g1) (TO.quiet (q_assign rfl) ?_))
    refine TO.nil (T.seq (T.seq (T.region ?_)))
    refine TO.quiet (q_move rfl) (TO.quiet (q_len Tryd.underlying52 rfl) (TO.quiet (q_fieldAddr Tryd.underlying25 rfl inf3 rfl rfl) (TO.quiet (q_load_box 0 Tryd.underlying3 rfl rfl rfl rfl) ?_)))
    refine TO.quiet (q_shl1 (v := d.vars.toNat) rfl (by show Value.int _ d.vars = _; rw [Int.toNat_of_nonneg (by omega)]) (by omega)) (TO.quiet (q_neq rfl rfl) ?_)
    refine TO.nil ?_
    refine T.condP rfl (fun hc => ?_) (fun hc => ?_)
    · have hlt52 : d.next[k].length ≠ 2 ^ d.vars.toNat := by omega
      refine T.seq (T.region ?_)
      refine TO.quiet (q_assign rfl) ?_
      refine TO.nil (T.ret (Res.drop ?_))
      refine Res.one (.int .i64 2) Tryd.results20 rfl ?_
      refine ⟨[], Sub.of (List.nil_sublist _), congrArg (fun z : Nat => Value.int .i64 (z : Int)) (show 2 = checkD d from Eq.symm ?_), rfl⟩
      rw [← hr, rowsE_at hlt44, if_pos hlt52]
    have hge52 : ¬ d.next[k].length ≠ 2 ^ d.vars.toNat := by omega
    have hrpos : 0 < d.next[k].length := by
      have := Nat.pow_pos (n := d.vars.toNat) (show 0 < 2 by omega)
      omega
    refine T.skip (T.seq (T.region ?_))
    refine TO.quiet (q_move rfl) ?_
    have hk54 := fun (w1 : World) (hI : Inv w [oI b1 25 [(.int .i64 d.vars), (.int .i64 d.start), (.slice nb d.next.length nc), (.slice fb d.final.length fc)]] w1) => slicesMin w1 vb1 vc1 d.next[k] (hI.sl s1) hrpos hrl
    refine TO.loud rfl (l_call ent51 (CallT.of_pure hk54) rfl ?_)
    clear hk54
    rintro v O' ⟨N, rfl, ⟨m1, rfl, hm1, hall1⟩, rfl⟩
    by_cases he0 : m1 < 0
    · refine TO.quiet (QT.toB (q_lss rfl rfl) (decide_eq_true he0)) ?_
      refine TO.quiet (q_move rfl) ?_
      refine TO.passed rfl rfl ?_
      refine TO.passed rfl rfl ?_
      refine TO.passed rfl rfl ?_
      refine TO.passed rfl rfl ?_
      refine TO.quiet (q_pick1 rfl rfl) ?_
      refine TO.nil ?_
      refine T.cond1 rfl ?_
      refine T.seq (T.region ?_)
      refine TO.quiet (q_assign rfl) ?_
      refine TO.nil (T.ret (Res.drop ?_))
      refine Res.one (.int .i64 8) Tryd.results20 rfl ?_
      refine ⟨[], Sub.of (List.nil_sublist _), congrArg (fun z : Nat => Value.int .i64 (z : Int)) (show 8 = checkD d from Eq.symm ?_), rfl⟩
      rw [← hr, rowsE_at hlt44, if_neg (by simpa using hge52), if_neg ?_]
      intro hh
      simp only [rowOk, List.all_eq_true, Bool.and_eq_true, decide_eq_true_eq] at hh
      have := hh _ hm1; omega
    refine TO.quiet (QT.toB (q_lss rfl rfl) (decide_eq_false he0)) (TO.quiet (q_move rfl) ?_)
    refine TO.guarded rfl rfl rfl (LT.of_quiet rfl rfl (q_move rfl) ?_)
    have hk58 := fun (w1 : World) (hI : Inv w [oI b1 25 [(.int .i64 d.vars), (.int .i64 d.start), (.slice nb d.next.length nc), (.slice fb d.final.length fc)]] w1) => slicesMax w1 vb1 vc1 d.next[k] (hI.sl s1) hrpos hrl
    refine TO.guarded rfl rfl rfl (l_call ent52 (CallT.of_pure hk58) rfl ?_)
    clear hk58
    rintro v O' ⟨N, rfl, ⟨m2, rfl, hm2, hall2⟩, rfl⟩
    refine TO.guarded rfl rfl rfl (LT.of_quiet rfl rfl (q_move rfl) ?_)
    by_cases he1 : (d.next.length : Int) ≤ m2
    · refine TO.guarded rfl rfl rfl (LT.of_quiet rfl rfl (QT.toB (q_geq rfl rfl) (decide_eq_true he1)) ?_)
      refine TO.quiet (q_pick0 rfl rfl) ?_
      refine TO.nil ?_
      refine T.cond1 rfl ?_
      refine T.seq (T.region ?_)
      refine TO.quiet (q_assign rfl) ?_
      refine TO.nil (T.ret (Res.drop ?_))
      refine Res.one (.int .i64 8) Tryd.results20 rfl ?_
      refine ⟨[], Sub.of (List.nil_sublist _), congrArg (fun z : Nat => Value.int .i64 (z : Int)) (show 8 = checkD d from Eq.symm ?_), rfl⟩
      rw [← hr, rowsE_at hlt44, if_neg (by simpa using hge52), if_neg ?_]
      intro hh
      simp only [rowOk, List.all_eq_true, Bool.and_eq_true, decide_eq_true_eq] at hh
      have := hh _ hm2; omega
    refine TO.guarded rfl rfl rfl (LT.of_quiet rfl rfl (QT.toB (q_geq rfl rfl) (decide_eq_false he1)) ?_)
    refine TO.quiet (q_pick0 rfl rfl) ?_
    refine TO.nil ?_
    refine T.cond0 rfl ?_
    refine T.skip (T.region ?_)
    refine TO.quiet (q_inc rfl rfl (by omega)) (TO.quiet (q_move rfl) ?_)
    refine TO.nil ?_
    refine ⟨k + 1, by omega, rfl, by omega, ?_, ⟨rfl, rfl, rfl, rfl, rfl, rfl, rfl, rfl, rfl, rfl, rfl, trivial⟩⟩
    rw [← hr, rowsE_at hlt44, if_neg (by simpa using hge52), if_pos ?_]
    simp only [rowOk, List.all_eq_true, Bool.and_eq_true, decide_eq_true_eq]
    intro x hx
    have := hall1 x hx; have := hall2 x hx; omega
  have hge44 : ¬ k < d.next.length := by omega
  refine T.exit ?_
  refine T.seq (T.region ?_)
  refine TO.quiet (q_assign rfl) ?_
  refine TO.nil (T.ret (Res.drop ?_))
  refine Res.one (.int .i64 0) Tryd.results20 rfl ?_
  refine ⟨[], Sub.of (List.nil_sublist _), congrArg (fun z : Nat => Value.int .i64 (z : Int)) (show 0 = checkD d from Eq.symm ?_), rfl⟩
  rw [← hr, rowsE_end (by omega)]
end Go.Proofs.YtdaapdamcekkgaaDoor


namespace Go.Proofs
open Go.Shelf
def Tryd.lays283_ren : Go.Shelf.Ren := ⟨fun | 283 => 100 | n => n, fun | 3 => 3 | 9 => 9 | 4 => 4 | n => n, fun | n => n⟩
theorem Tryd.lays283 : Go.Proofs.Lays.n283 Tryd.prog Tryd.lays283_ren := {
  mixed := by kernel_rfl
  f283 := Tryd.func100.trans (congrArg some (by kernel_rfl))
  t3 := Tryd.underlying3
  a3 := Tryd.isAgg3
  z3 := Tryd.sizeOf3
  v3 := Tryd.zeroValue3
  t4 := Tryd.underlying4
  a4 := Tryd.isAgg4
  z4 := Tryd.sizeOf4
  v4 := Tryd.zeroValue4
  t9 := Tryd.underlying9
  a9 := Tryd.isAgg9
  z9 := Tryd.sizeOf9
  v9 := Tryd.zeroValue9 }
open Go.Lib in
theorem Tryd.internal_strconv_small (i : Nat) (h : i < 100) (w : World) :
    Calls Tryd.prog 100 #[.int .i64 i] w fun e w' => e = .returned (.string ⟨(Lib.decDigits i).toArray⟩) ∧ w' = w := Any.internal_strconv_small Tryd.lays283 i h w
end Go.Proofs


namespace Go.Proofs.YtdaapdamcekkgaaDoor
open Go.Lx Go.RowKit
set_option linter.unusedVariables false
set_option linter.unusedSimpArgs false
theorem smallF (w : World) (i : Nat) (h : i < 100) : PureT Tryd.prog 100 [.int .i64 (i : Int)] w fun v N => v = str (Lib.decDigits i) ∧ N = [] := fun w1 M hI =>
  (Go.Proofs.Tryd.internal_strconv_small i h w1).mono (by rintro e w' ⟨rfl, rfl⟩; exact ⟨_, [], rfl, hI, rfl, rfl⟩)
set_option maxHeartbeats 1000000 in
set_option maxRecDepth 20000 in
theorem appUintF (base : World) (b : Option Addr) (c c' m n : Nat) (l : List UInt8) (hl : l.length = m) (hn : n < 100) (hm : m ≤ 1000000) :
    CallT Tryd.prog base 104 [.slice b m c, .int .u64 (n : Int), .int .i64 10] [rowI b c 5 1 (cells8 l)] (fun v O' => ∃ b' c', v = .slice b' (m + (Lib.decDigits n).length) c' ∧ O' = [rowI b' c' 5 1 (cells8 (l ++ Lib.decDigits n))]) := by
  refine CallT.enter Tryd.func104 rfl Tryd.ntmps104 rfl ?_
  refine T.seq (T.region ?_)
  refine TO.quiet (q_assign rfl) ?_
  refine TO.nil (T.seq (T.seq (T.region ?_)))
  refine TO.quiet (q_move rfl) (TO.quiet (q_eql rfl rfl) ?_)
  refine TO.nil ?_
  refine T.cond1 rfl ?_
  refine T.seq (T.seq (T.region ?_))
  refine TO.quiet (q_move rfl) (TO.quiet (q_lss rfl rfl) ?_)
  refine TO.nil ?_
  refine T.cond1 (congrArg Value.bool (decide_eq_true (show (n : Int) < 100 by omega))) ?_
  refine T.seq (T.region ?_)
  refine TO.quiet (q_move rfl) (TO.quiet (q_move rfl) (TO.quiet (q_conv_id Tryd.underlying130 Tryd.underlying3 rfl (show IntKind.i64.wrap (n : Int) = (n : Int) from wrap64_id (by omega))) ?_))
  have hk16 := fun (w1 : World) (hI : Inv base [rowI b c 5 1 (cells8 l)] w1) => smallF w1 n hn
  refine TO.loud rfl (l_call ent100 (CallT.of_pure hk16) rfl ?_)
  clear hk16
  rintro v O' ⟨N, rfl, rfl, rfl⟩
  refine TO.loud rfl (l_appendS (s := Lib.decDigits n) 0 Tryd.underlying35 Tryd.underlying9 inf5 rfl rfl rfl rfl (by simp [hl]) rfl (by have := dec_len 1 n (by omega); omega) (by decide) (by decide) (fun b2 c2 => ?_))
  refine TO.quiet (q_assign rfl) ?_
  refine TO.nil (T.ret ?_)
  refine Res.one (.slice b2 (m + (Lib.decDigits n).length) c2) Tryd.results104 rfl ?_
  exact ⟨b2, c2, rfl, by rw [show cells8 (l ++ Lib.decDigits n) = cells8 l ++ cells8 (Lib.decDigits n) from List.map_append]; rfl⟩
set_option maxHeartbeats 1000000 in
set_option maxRecDepth 20000 in
theorem appIntF (base : World) (b : Option Addr) (c c' m n : Nat) (l : List UInt8) (hl : l.length = m) (hn : n < 100) (hm : m ≤ 1000000) :
    CallT Tryd.prog base 99 [.slice b m c, .int .i64 (n : Int), .int .i64 10] [rowI b c 5 1 (cells8 l)] (fun v O' => ∃ b' c', v = .slice b' (m + (Lib.decDigits n).length) c' ∧ O' = [rowI b' c' 5 1 (cells8 (l ++ Lib.decDigits n))]) := by
  refine CallT.enter Tryd.func99 rfl Tryd.ntmps99 rfl ?_
  refine T.seq (T.region ?_)
  refine TO.quiet (q_assign rfl) ?_
  refine TO.nil (T.seq (T.region ?_))
  refine TO.quiet (q_move rfl) (TO.quiet (q_conv_id Tryd.underlying2 Tryd.underlying130 rfl (show IntKind.u64.wrap (n : Int) = (n : Int) by unfold IntKind.wrap; simp [IntKind.bits, IntKind.signed]; omega)) (TO.quiet (q_assign rfl) ?_))
  refine TO.nil (T.seq (T.seq (T.region ?_)))
  refine TO.quiet (q_move rfl) (TO.quiet (q_lss rfl rfl) ?_)
  refine TO.nil ?_
  refine T.cond0 (congrArg Value.bool (decide_eq_false (show ¬ (n : Int) < 0 by omega))) ?_
  refine T.skip (T.seq (T.region ?_))
  refine TO.quiet (q_move rfl) (TO.quiet (q_move rfl) (TO.quiet (q_move rfl) ?_))
  have hk20 := appUintF base b c c' m n l hl hn hm
  refine TO.loud rfl (l_call ent104 hk20 rfl ?_)
  clear hk20
  rintro v O' ⟨b2, c2, rfl, rfl⟩
  refine TO.quiet (q_assign rfl) ?_
  refine TO.nil (T.ret ?_)
  refine Res.one (.slice b2 (m + (Lib.decDigits n).length) c2) Tryd.results99 rfl ?_
  exact ⟨b2, c2, rfl, rfl⟩
set_option maxHeartbeats 1000000 in
set_option maxRecDepth 20000 in
theorem appF (base : World) (b : Option Addr) (c c' m n : Nat) (l : List UInt8) (hl : l.length = m) (hn : n < 100) (hm : m ≤ 1000000) :
    CallT Tryd.prog base 97 [.slice b m c, .int .i64 (n : Int), .int .i64 10] [rowI b c 5 1 (cells8 l)] (fun v O' => ∃ b' c', v = .slice b' (m + (Lib.decDigits n).length) c' ∧ O' = [rowI b' c' 5 1 (cells8 (l ++ Lib.decDigits n))]) := by
  refine CallT.enter Tryd.func97 rfl Tryd.ntmps97 rfl ?_
  refine T.seq (T.region ?_)
  refine TO.quiet (q_assign rfl) ?_
  refine TO.nil (T.seq (T.region ?_))
  refine TO.quiet (q_move rfl) (TO.quiet (q_move rfl) (TO.quiet (q_move rfl) ?_))
  have hk10 := appIntF base b c c' m n l hl hn hm
  refine TO.loud rfl (l_call ent99 hk10 rfl ?_)
  clear hk10
  rintro v O' ⟨b2, c2, rfl, rfl⟩
  refine TO.quiet (q_assign rfl) ?_
  refine TO.nil (T.ret ?_)
  refine Res.one (.slice b2 (m + (Lib.decDigits n).length) c2) Tryd.results97 rfl ?_
  exact ⟨b2, c2, rfl, rfl⟩
set_option maxHeartbeats 1000000 in
set_option maxRecDepth 20000 in
theorem formatF (w : World) (n : Nat) (hn : n < 100) : PureT Tryd.prog 98 [.int .i64 (n : Int), .int .i64 10] w fun v N => v = str (Lib.decDigits n) ∧ N = [] := by
  refine CallT.enter Tryd.func98 rfl Tryd.ntmps98 rfl ?_
  refine T.seq (T.region ?_)
  refine TO.quiet (q_assign rfl) ?_
  refine TO.nil (T.seq (T.seq (T.region ?_)))
  refine TO.quiet (q_move rfl) (TO.quiet (q_eql rfl rfl) ?_)
  refine TO.nil ?_
  refine T.cond1 rfl ?_
  refine T.seq (T.seq (T.region ?_))
  refine TO.quiet (q_move rfl) (TO.quiet (QT.toB (q_leq rfl rfl) (decide_eq_true (by omega))) (TO.quiet (q_move rfl) ?_))
  refine TO.guarded rfl rfl rfl (LT.of_quiet rfl rfl (q_move rfl) ?_)
  refine TO.guarded rfl rfl rfl (LT.of_quiet rfl rfl (QT.toB (q_lss rfl rfl) (decide_eq_true (by omega))) ?_)
  refine TO.quiet (q_pick1 rfl rfl) ?_
  refine TO.nil ?_
  refine T.cond1 rfl ?_
  refine T.seq (T.region ?_)
  refine TO.quiet (q_move rfl) ?_
  have hk19 := fun (w1 : World) (hI : Inv w [] w1) => smallF w1 n hn
  refine TO.loud rfl (l_call ent100 (CallT.of_pure hk19) rfl ?_)
  clear hk19
  rintro v O' ⟨N, rfl, rfl, rfl⟩
  refine TO.quiet (q_assign rfl) ?_
  refine TO.nil (T.ret ?_)
  refine Res.one _ Tryd.results98 rfl ?_
  exact ⟨rfl, rfl⟩
set_option maxHeartbeats 1000000 in
set_option maxRecDepth 20000 in
theorem itoaF1 (w : World) (n : Nat) (hn : n < 100) : PureT Tryd.prog 93 [.int .i64 (n : Int)] w fun v N => v = str (Lib.decDigits n) ∧ N = [] := by
  refine CallT.enter Tryd.func93 rfl Tryd.ntmps93 rfl ?_
  refine T.seq (T.region ?_)
  refine TO.quiet (q_assign rfl) ?_
  refine TO.nil (T.seq (T.region ?_))
  refine TO.quiet (q_move rfl) ?_
  have hk4 := fun (w1 : World) (hI : Inv w [] w1) => formatF w1 n hn
  refine TO.loud rfl (l_call ent98 (CallT.of_pure hk4) rfl ?_)
  clear hk4
  rintro v O' ⟨N, rfl, rfl, rfl⟩
  refine TO.quiet (q_assign rfl) ?_
  refine TO.nil (T.ret ?_)
  refine Res.one _ Tryd.results93 rfl ?_
  exact ⟨rfl, rfl⟩
set_option maxHeartbeats 1000000 in
set_option maxRecDepth 20000 in
theorem itoaF (w : World) (n : Nat) (hn : n < 100) : PureT Tryd.prog 80 [.int .i64 (n : Int)] w fun v N => v = str (Lib.decDigits n) ∧ N = [] := by
  refine CallT.enter Tryd.func80 rfl Tryd.ntmps80 rfl ?_
  refine T.seq (T.region ?_)
  refine TO.quiet (q_assign rfl) ?_
  refine TO.nil (T.seq (T.region ?_))
  refine TO.quiet (q_move rfl) ?_
  have hk4 := fun (w1 : World) (hI : Inv w [] w1) => itoaF1 w1 n hn
  refine TO.loud rfl (l_call ent93 (CallT.of_pure hk4) rfl ?_)
  clear hk4
  rintro v O' ⟨N, rfl, rfl, rfl⟩
  refine TO.quiet (q_assign rfl) ?_
  refine TO.nil (T.ret ?_)
  refine Res.one _ Tryd.results80 rfl ?_
  exact ⟨rfl, rfl⟩
end Go.Proofs.YtdaapdamcekkgaaDoor


/- Partitions of states, in plain terms: numbers by first appearance. -/
import Derived.Test.YthfemndklplpbaaDoorPlain
import Derived.Test.YthfemndklplpbaaDoorDec
set_option linter.unusedSectionVars false
set_option linter.unusedSimpArgs false
set_option linter.unusedVariables false
set_option linter.unnecessarySimpa false
namespace Go.Lx
set_option linter.unusedVariables false

section
variable {α : Type} [DecidableEq α]

/-- Where x stands first. -/
def ix (x : α) : List α → Nat
  | [] => 0
  | k :: ks => if x = k then 0 else ix x ks + 1

theorem ix_lt {x : α} : ∀ {ks : List α}, x ∈ ks → ix x ks < ks.length
  | k :: ks, h => by
    simp only [ix]
    split
    · simp
    · rename_i e
      have := ix_lt ((List.mem_cons.1 h).resolve_left e)
      simp; omega

theorem ix_get {x : α} : ∀ {ks : List α}, x ∈ ks → ks[ix x ks]? = some x
  | k :: ks, h => by
    simp only [ix]
    split
    · rename_i e; simp [e]
    · rename_i e
      simpa using ix_get ((List.mem_cons.1 h).resolve_left e)

theorem ix_inj {x y : α} {ks : List α} (hx : x ∈ ks) (hy : y ∈ ks) (h : ix x ks = ix y ks) : x = y := by
  have h1 := ix_get hx
  rw [h, ix_get hy] at h1
  exact (Option.some.inj h1).symm

theorem ix_append_left {x : α} {ms : List α} : ∀ {ks : List α}, x ∈ ks → ix x (ks ++ ms) = ix x ks
  | k :: ks, h => by
    simp only [List.cons_append, ix]
    split
    · rfl
    · rename_i e; rw [ix_append_left ((List.mem_cons.1 h).resolve_left e)]

theorem ix_append_right {x : α} {ms : List α} : ∀ {ks : List α}, x ∉ ks → ix x (ks ++ ms) = ks.length + ix x ms
  | [], _ => by simp
  | k :: ks, h => by
    simp only [List.mem_cons, not_or] at h
    simp only [List.cons_append, ix, h.1, if_false, ix_append_right h.2, List.length_cons]
    omega

/-- A key is noted, if it is new. -/
def add (ks : List α) (k : α) : List α := if k ∈ ks then ks else ks ++ [k]

/-- The keys in the order in which they first appear. -/
def dd (l : List α) : List α := l.foldl add []

theorem mem_add {ks : List α} {k x : α} : x ∈ add ks k ↔ x ∈ ks ∨ x = k := by
  unfold add
  split
  · rename_i h
    exact ⟨.inl, fun h' => h'.elim id (fun e => e ▸ h)⟩
  · simp

theorem add_nodup {ks : List α} {k : α} (h : ks.Nodup) : (add ks k).Nodup := by
  unfold add
  split
  · exact h
  · rename_i hk
    rw [List.nodup_append]
    refine ⟨h, by simp, fun a ha b hb e => ?_⟩
    simp at hb; subst hb; subst e; exact hk ha

theorem add_prefix (ks : List α) (k : α) : ks <+: add ks k := by
  unfold add
  split
  · exact List.prefix_refl _
  · exact List.prefix_append _ _

theorem foldl_prefix : ∀ (l ks : List α), ks <+: l.foldl add ks
  | [], ks => List.prefix_refl _
  | k :: l, ks => (add_prefix ks k).trans (foldl_prefix l (add ks k))

theorem dd_append (l m : List α) : dd (l ++ m) = m.foldl add (dd l) := by simp [dd]
theorem dd_snoc (l : List α) (k : α) : dd (l ++ [k]) = add (dd l) k := by simp [dd]

theorem dd_nodup (l : List α) : (dd l).Nodup := by
  have : ∀ (l ks : List α), ks.Nodup → (l.foldl add ks).Nodup := by
    intro l
    induction l with
    | nil => intro ks h; exact h
    | cons k l ih => intro ks h; exact ih _ (add_nodup h)
  exact this l [] (by simp)

theorem mem_dd {l : List α} {x : α} : x ∈ dd l ↔ x ∈ l := by
  have : ∀ (l ks : List α), x ∈ l.foldl add ks ↔ x ∈ ks ∨ x ∈ l := by
    intro l
    induction l with
    | nil => intro ks; simp
    | cons k l ih => intro ks; rw [List.foldl_cons, ih, mem_add, List.mem_cons, or_assoc]
  rw [dd, this]; simp

theorem ix_prefix {ks ms : List α} (h : ks <+: ms) {x : α} (hx : x ∈ ks) : ix x ms = ix x ks := by
  obtain ⟨t, rfl⟩ := h
  exact ix_append_left hx

/-- What the map holds. -/
theorem look_zip {x : α} : ∀ (ks : List α) (i : Nat), lookL x (ks.zipIdx i) = if x ∈ ks then some (i + ix x ks) else none
  | [], i => by simp [lookL]
  | k :: ks, i => by
    simp only [List.zipIdx_cons, lookL]
    by_cases e : x = k
    · subst e; simp [ix]
    · rw [if_neg e, look_zip ks (i + 1)]
      by_cases h : x ∈ ks
      · simp [h, e, ix]; omega
      · simp [h, e]

theorem zipIdx_fst (ks : List α) (i : Nat) : (ks.zipIdx i).map Prod.fst = ks := by
  induction ks generalizing i with
  | nil => rfl
  | cons k ks ih => simp [List.zipIdx_cons]
end

/-! ### the texts by which refine tells states apart -/

def rowK (cs : List Nat) (r : List Int) : List Nat := r.map fun to => cs.getD to.toNat 0

/-- state s's text -/
def keyD (d : DFA) (cs : List Nat) (s : Nat) : List UInt8 := keyK (cs.getD s 0) (rowK cs (d.next.getD s []))

def keysD (d : DFA) (cs : List Nat) : List (List UInt8) := (List.range d.next.length).map (keyD d cs)

/-- The partition after one more round. -/
def refineF (d : DFA) (cs : List Nat) : List Nat := (keysD d cs).map fun k => ix k (dd (keysD d cs))

theorem cells8_snoc (l : List UInt8) : cells8 (l ++ [32]) = cells8 l ++ [Value.int .u8 32] := by simp

theorem keyK_step {a j : Nat} {l : List Nat} (hj : j < l.length) : keyK a (l.take (j + 1)) = keyK a (l.take j) ++ [32] ++ Lib.decDigits l[j] := by
  rw [List.take_succ_eq_append_getElem hj, keyK, keyK, tailK_append]; simp

theorem tailK_len : ∀ {l : List Nat}, (∀ x ∈ l, x < 100) → (tailK l).length ≤ 3 * l.length
  | [], _ => by simp [tailK]
  | a :: l, h => by
    have h1 := dec_len 1 a (by have := h a (by simp); omega)
    have h2 := tailK_len (l := l) (fun x hx => h x (by simp [hx]))
    simp only [tailK, List.length_cons, List.length_append]
    omega

theorem keyK_len {a : Nat} {l : List Nat} (ha : a < 100) (h : ∀ x ∈ l, x < 100) : (keyK a l).length ≤ 2 + 3 * l.length := by
  have h1 := dec_len 1 a (by omega)
  have h2 := tailK_len h
  simp only [keyK, List.length_append]
  omega

theorem keysD_take {d : DFA} {cs : List Nat} {k : Nat} (hk : k < d.next.length) : (keysD d cs).take (k + 1) = (keysD d cs).take k ++ [keyD d cs k] := by
  have hl : k < (keysD d cs).length := by simpa [keysD] using hk
  rw [List.take_succ_eq_append_getElem hl]
  simp [keysD]

theorem keyD_eq {d : DFA} {cs : List Nat} {k : Nat} (hk : k < d.next.length) (hc : k < cs.length) : keyD d cs k = keyK cs[k] (rowK cs d.next[k]) := by
  simp [keyD, hk, hc]

theorem rowK_lt {cs : List Nat} (h : ∀ x ∈ cs, x < 100) {r : List Int} : ∀ x ∈ rowK cs r, x < 100 := by
  intro x hx
  obtain ⟨to, _, rfl⟩ := List.mem_map.1 hx
  rw [List.getD_eq_getElem?_getD]
  cases e : cs[to.toNat]? with
  | none => simp
  | some y => exact h y (List.mem_of_getElem? e)

theorem dd_length {α : Type} [DecidableEq α] (l : List α) : (dd l).length ≤ l.length := by
  have : ∀ (l ks : List α), (l.foldl add ks).length ≤ ks.length + l.length := by
    intro l
    induction l with
    | nil => intro ks; simp
    | cons k l ih =>
      intro ks
      have h1 := ih (add ks k)
      have h2 : (add ks k).length ≤ ks.length + 1 := by unfold add; split <;> simp
      simp only [List.foldl_cons, List.length_cons]
      omega
  simpa [dd] using this l []

theorem keyD_mem {d : DFA} {cs : List Nat} {k s : Nat} (hs : s < k) (hk : k ≤ d.next.length) : keyD d cs s ∈ (keysD d cs).take k := by
  rw [keysD, ← List.map_take]
  refine List.mem_map_of_mem ?_
  rw [List.take_range]
  simp; omega

theorem rowK_length (cs : List Nat) (r : List Int) : (rowK cs r).length = r.length := List.length_map _

theorem rowK_get {cs : List Nat} {r : List Int} {j : Nat} (hj : j < r.length) (h : r[j].toNat < cs.length) : (rowK cs r)[j]'(by rw [rowK_length]; exact hj) = cs[r[j].toNat] := by
  simp [rowK, h]

theorem keyK_row {cs : List Nat} {r : List Int} {a j : Nat} (hj : j < r.length) (h : r[j].toNat < cs.length) : keyK a ((rowK cs r).take (j + 1)) = keyK a ((rowK cs r).take j) ++ [32] ++ Lib.decDigits cs[r[j].toNat] := by
  rw [keyK_step (by rw [rowK_length]; exact hj), rowK_get hj h]

/-- The partition into final and other states. -/
def beginF (d : DFA) : List Nat := (List.range d.next.length).map fun s => if d.final.getD s false ≠ d.final.getD 0 false then 1 else 0

/-- The partition after i rounds. -/
def itF (d : DFA) : Nat → List Nat
  | 0 => beginF d
  | i + 1 => refineF d (itF d i)

theorem itF_length (d : DFA) (i : Nat) : (itF d i).length = d.next.length := by
  cases i <;> simp [itF, beginF, refineF, keysD]

theorem refineF_lt {d : DFA} {cs : List Nat} {x : Nat} (h : x ∈ refineF d cs) : x < d.next.length := by
  obtain ⟨k, hk, rfl⟩ := List.mem_map.1 h
  have h1 := ix_lt (mem_dd.2 hk)
  have h2 := dd_length (keysD d cs)
  have h3 : (keysD d cs).length = d.next.length := by simp [keysD]
  omega

theorem itF_lt {d : DFA} (hn : d.next.length < 100) (i : Nat) : ∀ x ∈ itF d i, x < 100 := by
  cases i with
  | zero =>
    intro x hx
    obtain ⟨s, _, rfl⟩ := List.mem_map.1 hx
    split <;> omega
  | succ i => intro x hx; have := refineF_lt hx; omega

theorem itF_stable {d : DFA} {i : Nat} (h : refineF d (itF d i) = itF d i) : ∀ m, i ≤ m → itF d m = itF d i := by
  intro m hm
  induction hm with
  | refl => rfl
  | step _ ih => rw [itF, ih, h]

/-! ### what is reached, numbered by first visit -/

/-- The keys known after s of them have been looked at; tr: a key's successor. -/
def exN (tr : List UInt8 → Nat → List UInt8) (L : Nat) (start : List UInt8) : Nat → List (List UInt8)
  | 0 => [start]
  | s + 1 => ((List.range L).map (tr ((exN tr L start s).getD s []))).foldl add (exN tr L start s)

/-- A row of numbers. -/
def exRow (tr : List UInt8 → Nat → List UInt8) (L : Nat) (ks : List (List UInt8)) (s : Nat) : List Int :=
  (List.range L).map fun x => ((ix (tr (ks.getD s []) x) ks : Nat) : Int)

theorem foldl_add_snoc {α : Type} [DecidableEq α] (f : Nat → α) (ks : List α) (x : Nat) : ((List.range (x + 1)).map f).foldl add ks = add (((List.range x).map f).foldl add ks) (f x) := by
  rw [List.range_succ, List.map_append, List.foldl_append]; rfl

theorem mem_foldl_add {α : Type} [DecidableEq α] {y : α} : ∀ (l ks : List α), y ∈ l.foldl add ks ↔ y ∈ ks ∨ y ∈ l
  | [], ks => by simp
  | k :: l, ks => by rw [List.foldl_cons, mem_foldl_add l, mem_add, List.mem_cons, or_assoc]

theorem prefix_getD {ks ms : List (List UInt8)} (h : ks <+: ms) {s : Nat} (hs : s < ks.length) : ms.getD s [] = ks.getD s [] := by
  obtain ⟨t, rfl⟩ := h
  rw [List.getD_eq_getElem?_getD, List.getD_eq_getElem?_getD, List.getElem?_append_left hs]

/-- The rows so far, and that they speak of known keys alone. -/
structure ExOk (tr : List UInt8 → Nat → List UInt8) (L : Nat) (ks : List (List UInt8)) (s : Nat) (rs : List (List Int)) : Prop where
  len : rs.length = s
  le : s ≤ ks.length
  row : ∀ i, i < s → rs[i]? = some (exRow tr L ks i)
  mem : ∀ i, i < s → ∀ x, x < L → tr (ks.getD i []) x ∈ ks

theorem exRow_prefix {tr : List UInt8 → Nat → List UInt8} {L : Nat} {ks ms : List (List UInt8)} (h : ks <+: ms) {s : Nat} (hs : s < ks.length) (hm : ∀ x, x < L → tr (ks.getD s []) x ∈ ks) : exRow tr L ms s = exRow tr L ks s := by
  unfold exRow
  apply List.map_congr_left
  intro x hx
  rw [prefix_getD h hs, ix_prefix h (hm x (List.mem_range.1 hx))]

theorem ExOk.snoc {tr : List UInt8 → Nat → List UInt8} {L : Nat} {ks ms : List (List UInt8)} {s : Nat} {rs : List (List Int)} {ys : List Int} (h : ExOk tr L ks s rs) (hp : ks <+: ms) (hs : s < ks.length) (hy : ys = exRow tr L ms s) (hm : ∀ x, x < L → tr (ms.getD s []) x ∈ ms) : ExOk tr L ms (s + 1) (rs ++ [ys]) := by
  have hle := hp.length_le
  refine ⟨by simp [h.len], by omega, fun i hi => ?_, fun i hi => ?_⟩
  · by_cases e : i = s
    · subst e; rw [List.getElem?_append_right (by rw [h.len]; exact Nat.le_refl _), h.len, hy]; simp
    · rw [List.getElem?_append_left (by rw [h.len]; omega), h.row i (by omega), exRow_prefix hp (by omega) (h.mem i (by omega))]
  · by_cases e : i = s
    · subst e; exact hm
    · intro x hx
      rw [prefix_getD hp (by omega)]
      exact hp.subset (h.mem i (by omega) x hx)

/-! ### the states reached, in the order of the first visit -/

/-- A numeral's number. -/
def undec (l : List UInt8) : Nat := l.foldl (fun a b => a * 10 + (b.toNat - 48)) 0

theorem undec_dec (u : Nat) : undec (Lib.decDigits u) = u := by
  induction u using Nat.strongRecOn with
  | _ u ih =>
    by_cases h : u < 10
    · rw [dec_small h]
      show 0 * 10 + ((UInt8.ofNat (48 + u)).toNat - 48) = u
      rw [digit_toNat h]; omega
    · rw [dec_big h, undec, List.foldl_append]
      have := ih (u / 10) (by omega)
      rw [undec] at this
      rw [this]
      show u / 10 * 10 + ((UInt8.ofNat (48 + u % 10)).toNat - 48) = u
      rw [digit_toNat (by omega)]; omega

/-- The state to which letter x leads from state o. -/
def toN (d : DFA) (o x : Nat) : Nat := ((d.next.getD o []).getD x 0).toNat

def trD (d : DFA) (k : List UInt8) (x : Nat) : List UInt8 := Lib.decDigits (toN d (undec k) x)

/-- A state's successors, letter by letter. -/
def sucs (d : DFA) (o : Nat) : List Nat := (List.range (2 ^ d.vars.toNat)).map (toN d o)

/-- The states known after s of them have been looked at. -/
def bfsN (d : DFA) : Nat → List Nat
  | 0 => [d.start.toNat]
  | s + 1 => if s < (bfsN d s).length then (sucs d ((bfsN d s).getD s 0)).foldl add (bfsN d s) else bfsN d s

/-- The reachable states by first visit. -/
def order (d : DFA) : List Nat := bfsN d d.next.length

/-- The automaton of the reachable states, numbered by first visit. -/
def renum (d : DFA) : DFA where
  vars := d.vars
  start := 0
  next := (order d).map fun o => (sucs d o).map fun t => ((ix t (order d) : Nat) : Int)
  final := (order d).map fun o => d.final.getD o false

theorem Valid.toN_lt {d : DFA} (hv : Valid d) {o x : Nat} (ho : o < d.next.length) (hx : x < 2 ^ d.vars.toNat) : toN d o x < d.next.length ∧ ∃ h : o < d.next.length, ∃ hx' : x < d.next[o].length, d.next[o][x] = (toN d o x : Int) := by
  have hl : d.next[o].length = 2 ^ d.vars.toNat := hv.len _ (List.getElem_mem ho)
  have hx' : x < d.next[o].length := by omega
  have h1 := hv.ok _ (List.getElem_mem ho) _ (List.getElem_mem hx')
  have e : toN d o x = d.next[o][x].toNat := by simp [toN, ho, hx']
  exact ⟨by omega, ho, hx', by omega⟩

theorem nodup_bound : ∀ {n : Nat} {l : List Nat}, l.Nodup → (∀ x ∈ l, x < n) → l.length ≤ n
  | 0, l, _, hb => by
    cases l with
    | nil => simp
    | cons a l => exact absurd (hb a (by simp)) (by omega)
  | n + 1, l, h, hb => by
    by_cases hn : n ∈ l
    · have h1 := nodup_bound (n := n) (h.erase n) fun x hx => by
        have := (List.Nodup.mem_erase_iff h).1 hx
        have := hb x this.2
        omega
      rw [List.length_erase_of_mem hn] at h1
      omega
    · have := nodup_bound (n := n) h fun x hx => by
        have := hb x hx
        have : x ≠ n := fun e => hn (e ▸ hx)
        omega
      omega

theorem map_add {α β : Type} [DecidableEq α] [DecidableEq β] {f : α → β} (hf : ∀ a b, f a = f b → a = b) (ks : List α) (k : α) : (add ks k).map f = add (ks.map f) (f k) := by
  unfold add
  by_cases h : k ∈ ks
  · rw [if_pos h, if_pos (List.mem_map_of_mem h)]
  · rw [if_neg h, if_neg (fun hh => by obtain ⟨a, ha, e⟩ := List.mem_map.1 hh; exact h (hf _ _ e ▸ ha))]
    simp

theorem map_foldl_add {α β : Type} [DecidableEq α] [DecidableEq β] {f : α → β} (hf : ∀ a b, f a = f b → a = b) : ∀ (l ks : List α), (l.foldl add ks).map f = (l.map f).foldl add (ks.map f)
  | [], ks => rfl
  | k :: l, ks => by rw [List.foldl_cons, map_foldl_add hf l, map_add hf, List.map_cons, List.foldl_cons]

/-- The keys are the states' numerals. -/
theorem exN_bfs (d : DFA) : ∀ (N : Nat), (∀ i, i < N → i < (exN (trD d) (2 ^ d.vars.toNat) (Lib.decDigits d.start.toNat) i).length) →
    exN (trD d) (2 ^ d.vars.toNat) (Lib.decDigits d.start.toNat) N = (bfsN d N).map Lib.decDigits
  | 0, _ => rfl
  | N + 1, h => by
    have ih := exN_bfs d N fun i hi => h i (by omega)
    have hN := h N (by omega)
    rw [ih, List.length_map] at hN
    rw [exN, ih, bfsN, if_pos hN, map_foldl_add dec_inj]
    congr 1
    rw [sucs, List.map_map]
    apply List.map_congr_left
    intro x _
    have e : ((bfsN d N).map Lib.decDigits).getD N [] = Lib.decDigits ((bfsN d N).getD N 0) := by
      simp [hN]
    rw [e, trD, undec_dec]; rfl

theorem bfsN_stable {d : DFA} {N : Nat} (h : (bfsN d N).length = N) : ∀ m, N ≤ m → bfsN d m = bfsN d N := by
  intro m hm
  induction hm with
  | refl => rfl
  | @step m hm ih =>
    have hm' : N ≤ m := hm
    rw [bfsN, ih, if_neg (by omega)]

theorem order_eq {d : DFA} {N : Nat} (h : (bfsN d N).length = N) (hn : N ≤ d.next.length) : order d = bfsN d N := bfsN_stable h _ hn

theorem dec_ix (os : List Nat) (t : Nat) : ix (Lib.decDigits t) (os.map Lib.decDigits) = ix t os := by
  induction os with
  | nil => rfl
  | cons o os ih =>
    simp only [List.map_cons, ix, ih]
    by_cases e : t = o
    · simp [e]
    · rw [if_neg e, if_neg (fun h => e (dec_inj _ _ h))]

theorem map_dec_inj : ∀ {a b : List Nat}, a.map Lib.decDigits = b.map Lib.decDigits → a = b
  | [], [], _ => rfl
  | [], _ :: _, h => by simp at h
  | _ :: _, [], h => by simp at h
  | x :: a, y :: b, h => by
    simp only [List.map_cons, List.cons.injEq] at h
    rw [dec_inj x y h.1, map_dec_inj h.2]

theorem ren_order {d : DFA} {os : List Nat} {N : Nat} (hen : ∀ i, i < N → i < (exN (trD d) (2 ^ d.vars.toNat) (Lib.decDigits d.start.toNat) i).length)
    (hks : exN (trD d) (2 ^ d.vars.toNat) (Lib.decDigits d.start.toNat) N = os.map Lib.decDigits) (hlen : (exN (trD d) (2 ^ d.vars.toNat) (Lib.decDigits d.start.toNat) N).length = N) (hle : os.length ≤ d.next.length) : os = order d ∧ os.length = N := by
  have h1 : os.length = N := by rw [← hlen, hks, List.length_map]
  have h2 : os = bfsN d N := map_dec_inj (by rw [← hks, exN_bfs d N hen])
  exact ⟨by rw [order_eq (N := N) (by rw [← h2]; exact h1) (by omega)]; exact h2, h1⟩

theorem ren_next {d : DFA} {os : List Nat} {N : Nat} {rs : List (List Int)} (hks : exN (trD d) (2 ^ d.vars.toNat) (Lib.decDigits d.start.toNat) N = os.map Lib.decDigits) (hE : ExOk (trD d) (2 ^ d.vars.toNat) (exN (trD d) (2 ^ d.vars.toNat) (Lib.decDigits d.start.toNat) N) N rs) (ho : os = order d) (hN : os.length = N) : rs = (renum d).next := by
  apply List.ext_getElem?
  intro i
  by_cases hi : i < N
  · rw [hE.row i hi, hks]
    have hi' : i < os.length := by omega
    have e : (os.map Lib.decDigits).getD i [] = Lib.decDigits os[i] := by simp [hi']
    simp only [renum, List.getElem?_map, ← ho, List.getElem?_eq_getElem hi', Option.map_some, exRow, e, trD, undec_dec, sucs, List.map_map]
    refine congrArg some (List.map_congr_left fun x _ => ?_)
    simp only [Function.comp_def, dec_ix]
  · rw [List.getElem?_eq_none (by rw [hE.len]; omega), List.getElem?_eq_none (by simp [renum, ← ho]; omega)]

/-! ### the automaton of the classes -/

/-- Rows and marks of the classes whose first state is among the first k. -/
def quoN (d : DFA) (cs : List Nat) : Nat → List (List Int) × List Bool
  | 0 => ([], [])
  | k + 1 => if cs.getD k 0 < (quoN d cs k).1.length then quoN d cs k else
      ((quoN d cs k).1 ++ [(rowK cs (d.next.getD k [])).map fun c : Nat => (c : Int)], (quoN d cs k).2 ++ [d.final.getD k false])

def quo (d : DFA) (cs : List Nat) : DFA where
  vars := d.vars
  start := ((cs.getD d.start.toNat 0 : Nat) : Int)
  next := (quoN d cs d.next.length).1
  final := (quoN d cs d.next.length).2

theorem quoN_len (d : DFA) (cs : List Nat) : ∀ k, (quoN d cs k).1.length = (quoN d cs k).2.length ∧ (quoN d cs k).1.length ≤ k
  | 0 => by simp [quoN]
  | k + 1 => by
    have ih := quoN_len d cs k
    rw [quoN]
    split
    · exact ⟨ih.1, by omega⟩
    · simp; omega

end Go.Lx

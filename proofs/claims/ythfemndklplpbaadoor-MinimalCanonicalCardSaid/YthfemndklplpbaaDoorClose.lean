/- From a law's walk to its statement: the arguments opened, the answer closed. -/
import Derived.OpenShut
import Derived.Deep.DeepHandedRow
import Derived.Deep.Matrix
import Derived.Deep.Grids
import Derived.WideKeyArgs
import Derived.SizedLaws
import Derived.Test.YthfemndklplpbaaDoorCoreF
set_option linter.unusedSectionVars false
set_option linter.unusedSimpArgs false
set_option linter.unusedVariables false
set_option linter.unnecessarySimpa false
namespace Go.Lx
open Go.RowKit Go.ChangeShapes Go.WideShapes Go.Deep
set_option linter.unusedVariables false

section
variable {H : Type} {enc : TypeId × Value → H} {P : Program}

/-- Arguments of readable types read as they did where the memory is as it was. -/
theorem TrodAll_stays (hl : laidOutB P = true) {W W' : World} {sp' : Nat → Bool} : ∀ {ts : List TypeId} {vs : List Value} {ds : List (DataW H)} {ps : List MemPlace},
    (∀ t ∈ ts, P.readableRec t = true ∧ t < P.types.size) → DataW.TrodAll enc P W 0 (fun _ => true) true ts vs ds ps → (∀ p ∈ ps, W.sameAt W' p) → (∀ p ∈ ps, sp' p.block = true) → DataW.TrodAll enc P W' 0 sp' true ts vs ds ps
  | [], _, _, _, _, h, _, _ => by
    obtain ⟨rfl, rfl, rfl⟩ := trodAll_nil h
    rfl
  | t :: ts, _, _, _, hr, h, hs, hsp => by
    obtain ⟨v, vs1, d, ds1, p, q, rfl, rfl, rfl, h1, h2⟩ := trodAll_cons h
    have ht := hr t (by simp)
    exact ⟨p, q, WideElems.Trod_stays hl ht.1 ht.2 h1 (fun x hx => hs x (List.mem_append_left _ hx)) (fun x hx => hsp x (List.mem_append_left _ hx)),
      TrodAll_stays hl (fun t ht => hr t (by simp [ht])) h2 (fun x hx => hs x (List.mem_append_right _ hx)) (fun x hx => hsp x (List.mem_append_right _ hx)), rfl⟩

/-- A law that answers true and leaves all memory as it was. -/
theorem post_law {f : Func} {s : ChangeSpec} {W W' : World} {args : Array Value} {ds gs : List (DataW H)} {before : List MemPlace} {tb : TypeId}
    (hl : laidOutB P = true) (hr : ∀ t ∈ f.params.toList, P.readableRec t = true ∧ t < P.types.size) (hres : f.resultTypes = #[tb]) (hb : P.underlying tb = some .bool) (hv : s.vars = [])
    (hW : DataW.Whole enc P f.params.toList s.vars false W args.toList ds gs before)
    (h1 : (s.fn H ds).results = [.lit (.bool true)]) (h2 : (s.fn H ds).args = ds) (h3 : (s.fn H ds).vars = [])
    (hB : Below W.heap.size W W') : s.post enc P f false true false false W args (.bool true) W' := by
  have hW0 := hW
  obtain ⟨p, q, hA, hV, rfl, hz, hn⟩ := hW
  rw [hv] at hV
  obtain ⟨rfl, rfl⟩ := trodVars_none hV
  simp only [List.append_nil] at hW0 hz hn
  have hlt := hW0.lt
  have hsame : ∀ x ∈ p, W.sameAt W' x := fun x hx => hB.same (hlt x hx)
  have hargs : ∀ sp : Nat → Bool, (∀ x ∈ p, sp x.block = true) → DataW.TrodAll enc P W' 0 sp true f.params.toList args.toList (s.fn H (ds ++ [])).args p := fun sp hsp => by
    rw [List.append_nil, h2]
    exact TrodAll_stays hl hr hA hsame hsp
  have hvars : ∀ sp : Nat → Bool, DataW.TrodVars enc P W' sp s.vars (s.fn H (ds ++ [])).vars [] := fun sp => by
    rw [List.append_nil, hv, h3]; rfl
  have hresult : ∀ (b : Nat) (sp : Nat → Bool) (hd : Bool), DataW.TrodAll enc P W' b sp hd f.resultTypes.toList ((Value.bool true).resultList f.resultTypes.size) (s.fn H (ds ++ [])).results [] := fun b sp hd => by
    rw [List.append_nil, h1, hres]
    exact trodAll_cons_mk (shut_bool hb _) trodAll_mk0
  have hold : ∀ x ∈ p, (fun b => decide (b < W.heap.size)) x.block = true := fun x hx => by simpa using hlt x hx
  refine ⟨ds, [], p, [], p, [], hW0, hresult _ _ _, hargs _ hold, hvars _, World.keptBut_mono (fun x hx => ⟨hx, ?_⟩) (hB.frame _), fun _ => ?_⟩
  · exact Or.inr (by simpa using hx)
  · refine ⟨ok_one hres rfl (okWide_bool_mk hb _), _, _, ([] ++ p) ++ [], ⟨[] ++ p, [], trodAll_append (hargs _ (fun _ _ => rfl)) (hresult _ _ _), hvars _, rfl, ?_, ?_⟩, ?_⟩
    · intro b off hx
      have hx' : MemPlace.cell b off ∈ p := by simpa using hx
      rw [hB.frozen (p := ⟨b, off, none⟩) (hlt _ hx')]
      exact hz b off hx'
    · intro ha; cases ha
    · intro x hx _
      simpa using hx

theorem spotNone {w : World} {a : Addr} {v : Value} (h : w.cell? a = some v) : a.spot = none := by
  unfold World.cell? at h
  cases e : a.spot with
  | none => rfl
  | some x => rw [e] at h; split at h <;> simp at h

theorem Sl.ofCells {w : World} {a : Addr} {cs : List Value} (h : ∀ i (hi : i < cs.length), w.cell? (a.add i) = some cs[i]) : Sl w (some a) cs := fun i hi => by
  have h0 := h 0 (by omega)
  have h1 := h i hi
  have h2 : a.spot = none := spotNone (a := a) (by simpa [Addr.add] using h0)
  refine ⟨a, rfl, h2, ?_⟩
  have e : a.add i = ⟨a.block, a.off + i, none⟩ := by
    unfold Addr.add
    split
    · rename_i h; subst h
      cases a with
      | mk b o s => simp at h2; subst h2; rfl
    · rfl
  rw [← e]; exact h1

/-- What an automaton that came in is, and where it lies. -/
structure DfaIn (P : Program) (W : World) (v : Value) (d : DFA) (nb fb : Option Addr) (nc fc : Nat) (vs : List Value) : Prop where
  val : v = .agg (dfaCells d nb nc fb fc).toArray
  at_ : DfaAt W d nb vs fb
  n : d.next.length ≤ reachBytes
  r : ∀ r ∈ d.next, r.length ≤ reachBytes
  f : d.final.length ≤ reachBytes

theorem weights_all (e : TypeId) : ∀ {l : List (DataW H)} {d : DataW H}, d ∈ l → ∀ m ∈ d.weights P e, m ∈ DataW.weightsAll P e l
  | [], _, h, _, _ => by cases h
  | x :: l, d, h, m, hm => by
    rw [DataW.weightsAll, List.mem_append]
    rcases List.mem_cons.1 h with rfl | h
    · exact .inl hm
    · exact .inr (weights_all e h m hm)

theorem slice_bound {t e : TypeId} {elems spare : List (DataW H)} (ht : P.underlying t = some (.slice e)) (he : 0 < P.bytesOf e) (h : ∀ m ∈ (DataW.slice elems spare).weights P t, m ≤ reachBytes) :
    elems.length ≤ reachBytes ∧ ∀ d ∈ elems, ∀ m ∈ d.weights P e, m ≤ reachBytes := by
  have hw : (DataW.slice elems spare).weights P t = (elems.length + spare.length) * P.bytesOf e :: (DataW.weightsAll P e elems ++ DataW.weightsAll P e spare) := by
    rw [DataW.weights, ht]
  rw [hw] at h
  refine ⟨?_, fun d hd m hm => h m (List.mem_cons_of_mem _ (List.mem_append_left _ (weights_all e hd m hm)))⟩
  have h1 := h _ List.mem_cons_self
  have h2 := Nat.mul_le_mul_left (elems.length + spare.length) (show 1 ≤ P.bytesOf e from he)
  omega

theorem intsOf {w : World} {A : Option Addr} {L C : Nat} {Z : List Int} (hL : L ≤ C) (hZ : Z.length = C) (h0 : A = none → C = 0) (h : ∀ a', A = some a' → 0 ≤ a'.block ∧ ∀ c, c < C → w.cell? (a'.add c) = some (.int .i64 (Z.getD c 0))) :
    (Z.take L).length = L ∧ Sl w A (ints (Z.take L)) := by
  have hl : (Z.take L).length = L := by rw [List.length_take]; omega
  refine ⟨hl, ?_⟩
  cases A with
  | none =>
    have := h0 rfl
    have : Z.take L = [] := List.eq_nil_of_length_eq_zero (by omega)
    rw [this]; exact Sl.nil _ _
  | some a =>
    refine Sl.ofCells fun i hi => ?_
    have hi' : i < L := by rw [List.length_map, hl] at hi; exact hi
    have hiz : i < Z.length := by omega
    rw [(h a rfl).2 i (by omega), List.getElem_map, List.getElem_take]
    simp [hiz]

theorem open_dfa {t ti tn tr tf tb : TypeId} {f0 f1 f2 f3 : Field} {W : World} {v : Value} {d : DataW H} {p : List MemPlace}
    (ht : P.underlying t = some (.struct #[f0, f1, f2, f3])) (hc : P.cellsOf t = 4) (h0 : f0.type = ti) (h1 : f1.type = ti) (h2 : f2.type = tn) (h3 : f3.type = tf) (o0 : f0.offset = 0) (o1 : f1.offset = 1) (o2 : f2.offset = 2) (o3 : f3.offset = 3)
    (hi : P.underlying ti = some (.int .i64)) (hn : P.underlying tn = some (.slice tr)) (hrow : P.underlying tr = some (.slice ti)) (hf : P.underlying tf = some (.slice tb)) (hb : P.underlying tb = some .bool)
    (ci : P.cellsOf ti = 1) (cn : P.cellsOf tn = 1) (cr : P.cellsOf tr = 1) (cf : P.cellsOf tf = 1) (cb : P.cellsOf tb = 1) (br : 0 < P.bytesOf tr) (bi : 0 < P.bytesOf ti) (bb : 0 < P.bytesOf tb) (hw : ∀ m ∈ d.weights P t, m ≤ reachBytes)
    (h : DataW.Trod enc P W 0 (fun _ => true) true t v d p) : ∃ D nb fb nc fc vs, DfaIn P W v D nb fb nc fc vs := by
  obtain ⟨fuel, hT⟩ := h
  obtain ⟨xs, n, rfl, hx, hlen, hxl, hfs⟩ := DataW.trod_struct ht hT
  rw [hc] at hlen
  obtain ⟨c0, c1, c2, c3, hcs⟩ : ∃ c0 c1 c2 c3, v.cells.toList = [c0, c1, c2, c3] := by
    match hh : v.cells.toList, hlen with
    | [a, b, c, e], _ => exact ⟨a, b, c, e, rfl⟩
  have hv : v = .agg #[c0, c1, c2, c3] := by
    have hsz : v.cells.size = 4 := by rw [← Array.length_toList, hcs]; rfl
    cases v with
    | agg cs =>
      have : cs.toList = [c0, c1, c2, c3] := hcs
      rw [← Array.toArray_toList (xs := cs), this]
    | _ => simp [Value.cells] at hsz
  rw [hcs] at hfs
  obtain ⟨x0, x1, x2, x3, rfl⟩ : ∃ a b c e, xs = [a, b, c, e] := by
    match xs, hxl with
    | [a, b, c, e], _ => exact ⟨a, b, c, e, rfl⟩
  have g0 := hfs 0 f0 rfl
  have g1 := hfs 1 f1 rfl
  have g2 := hfs 2 f2 rfl
  have g3 := hfs 3 f3 rfl
  rw [h0, o0, ci] at g0
  rw [h1, o1, ci] at g1
  rw [h2, o2, cn] at g2
  rw [h3, o3, cf] at g3
  have hd : d = .agg [x0.1, x1.1, x2.1, x3.1] := congrArg Prod.fst hx
  have hwe : d.weights P t = DataW.weightsEach P [ti, ti, tn, tf] [x0.1, x1.1, x2.1, x3.1] := by
    rw [hd, DataW.weights, ht]
    simp [h0, h1, h2, h3]
  rw [hwe] at hw
  have hw2 : ∀ m ∈ x2.1.weights P tn, m ≤ reachBytes := fun m hm => hw m (DataW.weights_mem_each (j := 2) rfl rfl m hm)
  have hw3 : ∀ m ∈ x3.1.weights P tf, m ≤ reachBytes := fun m hm => hw m (DataW.weights_mem_each (j := 3) rfl rfl m hm)
  obtain ⟨n0, e0, _, _⟩ := DataW.trod_int hi g0
  obtain ⟨n1, e1, _, _⟩ := DataW.trod_int hi g1
  have e0' : c0 = .int .i64 n0 := by simpa using e0
  have e1' : c1 = .int .i64 n1 := by simpa using e1
  subst e0' e1'
  -- the rows
  obtain ⟨nb, nc, rows, vs, e2, hnl, hvl, hout, hrows⟩ : ∃ (nb : Option Addr) (nc : Nat) (rows : List (List Int)) (vs : List Value), c2 = .slice nb rows.length nc ∧ rows.length ≤ reachBytes ∧ (∀ r ∈ rows, r.length ≤ reachBytes) ∧ Sl W nb vs ∧ RowsR W vs rows := by
    rcases open_int_rows hn hrow hi cr ci g2 with ⟨hcs2, _⟩ | ⟨a, len, cap, A, L, C, Z, hcs2, _, hlc, hcm, hx2, hall⟩
    · exact ⟨none, 0, [], [], by simpa using hcs2, Nat.zero_le _, fun r hr => (List.not_mem_nil hr).elim, Sl.nil _ _, rfl, fun i r hr => by simp at hr⟩
    · rw [congrArg Prod.fst hx2] at hw2
      obtain ⟨hwl, hwr⟩ := slice_bound hn br hw2
      have hwl' : len ≤ reachBytes := by simpa using hwl
      have hwrow : ∀ r, r < len → L r ≤ reachBytes := fun r hr => by
        obtain ⟨_, a2, _, a4, _, a6, _⟩ := hall r (by omega)
        have hm := hwr _ (List.mem_map.2 ⟨r, List.mem_range.2 hr, rfl⟩)
        cases hA : A r with
        | none => have := a6 hA; omega
        | some b =>
          rw [hA] at hm
          have := (slice_bound hrow bi hm).1
          simp [lits] at this
          omega
      have hrl : ∀ r, r < len → ((Z r).take (L r)).length = L r ∧ Sl W (A r) (ints ((Z r).take (L r))) := fun r hr => by
        obtain ⟨_, a2, a3, a4, _, a6, a7⟩ := hall r (by omega)
        exact intsOf a2 a4 a6 a7
      refine ⟨some a, cap, (List.range len).map fun r => (Z r).take (L r), (List.range len).map fun r => .slice (A r) (L r) (C r), by simpa using hcs2, by simp; omega, ?_, ?_, by simp, ?_⟩
      · intro r hr
        obtain ⟨j, hj, rfl⟩ := List.mem_map.1 hr
        have hj' := List.mem_range.1 hj
        rw [(hrl j hj').1]; exact hwrow j hj'
      · refine Sl.ofCells fun i hi9 => ?_
        have hi' : i < len := by simpa using hi9
        rw [(hall i (by omega)).1]; simp
      · intro i r hr
        have hi' : i < len := by
          have := (List.getElem?_eq_some_iff.1 hr).1
          simpa using this
        have er : r = (Z i).take (L i) := by
          rw [List.getElem?_map, List.getElem?_range hi'] at hr
          exact (Option.some.inj hr).symm
        subst er
        refine ⟨A i, C i, ?_, (hrl i hi').2⟩
        rw [List.getElem?_map, List.getElem?_range hi', (hrl i hi').1]; rfl
  -- the marks
  obtain ⟨fb, fc, fin, e3, hfl, hfin⟩ : ∃ (fb : Option Addr) (fc : Nat) (fin : List Bool), c3 = .slice fb fin.length fc ∧ fin.length ≤ reachBytes ∧ Sl W fb (bools fin) := by
    rcases open_bools hf hb cb g3 with ⟨hcs3, _⟩ | ⟨a, len, cap, B, hcs3, _, hlc, hcm, hx3, hall⟩
    · exact ⟨none, 0, [], by simpa using hcs3, Nat.zero_le _, Sl.nil _ _⟩
    · rw [congrArg Prod.fst hx3] at hw3
      have hwl := (slice_bound hf bb hw3).1
      have hwl' : len ≤ reachBytes := by simpa using hwl
      refine ⟨some a, cap, (List.range len).map B, by simpa using hcs3, by simp; omega, Sl.ofCells fun i hi9 => ?_⟩
      have hi' : i < len := by simpa using hi9
      rw [hall i (by omega)]; simp
  exact ⟨⟨n0, n1, rows, fin⟩, nb, fb, nc, fc, vs, by rw [hv, e2, e3], ⟨hout, hrows, hfin⟩, hnl, hvl, hfl⟩

theorem wf64 {n : Int} (h : (Lit.int .i64 n).wf = true) : -9223372036854775808 ≤ n ∧ n ≤ 9223372036854775807 := by
  simp only [Lit.wf, Bool.and_eq_true, decide_eq_true_eq] at h
  exact h

theorem wfU8 {n : Int} (h : (Lit.int .u8 n).wf = true) : 0 ≤ n ∧ n < 256 := by
  simp only [Lit.wf, Bool.and_eq_true, decide_eq_true_eq] at h
  have h1 : (0 : Int) ≤ n := h.1
  have h2 : n ≤ 255 := h.2
  omega

/-- A word that came in. -/
theorem open_word {t e : TypeId} {W : World} {r : Reach} {b0 : Nat} {v : Value} {d : DataW H} {p : List MemPlace} (ht : P.underlying t = some (.slice e)) (he : P.underlying e = some (.int .u8)) (ce : P.cellsOf e = 1) (be : 0 < P.bytesOf e)
    (hval : Value.okWide P W r b0 t v) (hw : ∀ m ∈ d.weights P t, m ≤ reachBytes) (h : DataW.Trod enc P W 0 (fun _ => true) true t v d p) :
    ∃ (l : List Nat) (b : Option Addr) (c : Nat), v = .slice b l.length c ∧ (Sl W b (byts l) ∧ ∀ x ∈ l, x < 256) ∧ l.length ≤ reachBytes := by
  obtain ⟨fuel, hT⟩ := h
  have hv : v.cells.toList = [v] := by
    unfold Value.okWide at hval
    rw [ht] at hval
    simp only at hval
    unfold Cell.okWide Cell.ok at hval
    rw [ht] at hval
    cases v <;> simp_all [Value.cells]
  rcases open_ints ht he ce hT with ⟨hcs, _⟩ | ⟨a, len, cap, zs, hcs, _, hl, _, hz, hx, hcell, hwz⟩
  · rw [hv] at hcs
    exact ⟨[], none, 0, by simpa using hcs, ⟨Sl.nil _ _, fun x hx => by cases hx⟩, Nat.zero_le _⟩
  · rw [hv] at hcs
    simp only [if_true] at hz
    have hd : d = _ := congrArg Prod.fst hx
    rw [hd] at hw
    have hb := (slice_bound ht be hw).1
    have hln : (zs.take len).length = len := by rw [List.length_take]; omega
    have hwt : ∀ z ∈ zs, 0 ≤ z ∧ z < 256 := fun z hz => wfU8 (hwz z hz)
    refine ⟨(zs.take len).map Int.toNat, some a, cap, ?_, ⟨?_, ?_⟩, ?_⟩
    · rw [List.length_map, hln]; simpa using hcs
    · refine Sl.ofCells fun i hi => ?_
      have hi' : i < len := by rw [List.length_map, List.length_map, hln] at hi; exact hi
      have hiz : i < zs.length := by omega
      have hz0 := (hwt _ (List.getElem_mem hiz)).1
      rw [hcell i hiz]
      simp [hiz, Int.toNat_of_nonneg hz0]
    · intro x hx
      obtain ⟨z, hz', rfl⟩ := List.mem_map.1 hx
      have := hwt z (List.mem_of_mem_take hz')
      omega
    · rw [List.length_map, hln]
      have : (lits (H := H) .u8 (zs.take len)).length = len := by simp [lits]; omega
      omega
theorem lt63 {n : Nat} (h : n ≤ reachBytes) : n < 9223372036854775807 := Nat.lt_of_le_of_lt h (by decide)
end
end Go.Lx

/- Contracts of functions of the program (TrmL): what each call answers and that it leaves memory as it was. Conditions: those each theorem names. -/
import Derived.Test.YtnamoapbienooaaTrm
set_option linter.unusedSectionVars false
set_option linter.unusedSimpArgs false
set_option linter.unusedVariables false
set_option linter.unnecessarySimpa false
namespace Go.Lx
open Go.RowKit
set_option linter.unusedVariables false
theorem keepB_len {b : Bu} : (keepB b).length = b.states.toNat := by unfold keepB; simp
theorem keepB_get {b : Bu} {v : Nat} (hv : v < b.states.toNat) : (keepB b).getD v false = true ↔ keepP b v := by unfold keepB; simp [hv]
theorem cntK_mono {keep : List Bool} {s t : Nat} (h : s ≤ t) : cntK keep s ≤ cntK keep t := by
  unfold cntK
  have : keep.take s = (keep.take t).take s := by rw [List.take_take, Nat.min_eq_left h]
  rw [this]
  exact (List.take_sublist s (keep.take t)).count_le true
theorem cntK_lt2 {keep : List Bool} {s t : Nat} (hs : keep.getD s false = true) (h : s < t) : cntK keep s < cntK keep t := by
  have h1 : cntK keep (s + 1) ≤ cntK keep t := cntK_mono h
  rw [cntK_succ (getB_lt hs), if_pos hs] at h1; omega
theorem cntK_inj {keep : List Bool} {s t : Nat} (hs : keep.getD s false = true) (ht : keep.getD t false = true) (h : cntK keep s = cntK keep t) : s = t := by
  rcases Nat.lt_trichotomy s t with q | q | q
  · have := cntK_lt2 hs q; omega
  · exact q
  · have := cntK_lt2 ht q; omega
theorem cntK_at {keep : List Bool} {u : Nat} : ∀ n, n ≤ keep.length → u < cntK keep n → ∃ s, keep.getD s false = true ∧ cntK keep s = u
  | 0, _, h => by simp [cntK] at h
  | n + 1, hn, h => by
    by_cases q : u < cntK keep n
    · exact cntK_at n (by omega) q
    · rw [cntK_succ (by omega)] at h
      by_cases hk : keep.getD n false = true
      · rw [if_pos hk] at h; exact ⟨n, hk, by omega⟩
      · rw [if_neg hk] at h; omega
theorem cntK_sur {keep : List Bool} {u : Nat} (hu : u < keep.count true) : ∃ s, keep.getD s false = true ∧ cntK keep s = u :=
  cntK_at keep.length (Nat.le_refl _) (by rw [cntK_all (Nat.le_refl _)]; exact hu)
theorem mem_renK {keep : List Bool} {l : List Int} {x : Int} : x ∈ renK keep l ↔ ∃ s ∈ l, keep.getD s.toNat false = true ∧ x = ((cntK keep s.toNat : Nat) : Int) := by
  unfold renK
  rw [List.mem_map]
  constructor
  · rintro ⟨s, h, rfl⟩; obtain ⟨h1, h2⟩ := List.mem_filter.1 h; exact ⟨s, h1, h2, rfl⟩
  · rintro ⟨s, h1, h2, rfl⟩; exact ⟨s, List.mem_filter.2 ⟨h1, h2⟩, rfl⟩
theorem mem_edK {keep : List Bool} {es : List Ed} {x : Ed} : x ∈ edK keep es ↔ ∃ e ∈ es, keep.getD e.fr.toNat false = true ∧ keep.getD e.to.toNat false = true ∧ x = renE keep e := by
  unfold edK
  rw [List.mem_map]
  constructor
  · rintro ⟨s, h, rfl⟩; obtain ⟨h1, h2⟩ := List.mem_filter.1 h; rw [Bool.and_eq_true] at h2; exact ⟨s, h1, h2.1, h2.2, rfl⟩
  · rintro ⟨s, h1, h2, h3, rfl⟩; exact ⟨s, List.mem_filter.2 ⟨h1, by rw [Bool.and_eq_true]; exact ⟨h2, h3⟩⟩, rfl⟩
theorem renK_sorted {keep : List Bool} {l : List Int} (h0 : ∀ s ∈ l, 0 ≤ s) (h : l.Pairwise (· < ·)) : (renK keep l).Pairwise (· < ·) := by
  unfold renK
  rw [List.pairwise_map]
  refine List.Pairwise.imp_of_mem (fun {x y} hx hy hlt => ?_) (h.filter _)
  obtain ⟨h1, h2⟩ := List.mem_filter.1 hx
  obtain ⟨h3, h4⟩ := List.mem_filter.1 hy
  have := h0 x h1
  have := cntK_lt2 (t := y.toNat) h2 (by omega)
  omega
theorem ValidB.trim {b : Bu} (h : ValidB b) {keep : List Bool} (hl : keep.length = b.states.toNat) : ValidB (trimWith b keep) := by
  have hr : ∀ l : List Int, ∀ s ∈ renK keep l, 0 ≤ s ∧ s < ((keep.count true : Nat) : Int) := fun l s hs => by
    obtain ⟨x, _, h1, rfl⟩ := mem_renK.1 hs
    have := cntK_lt h1; omega
  have hc : keep.count true ≤ keep.length := List.count_le_length
  refine { v0 := h.v0, v6 := h.v6, n0 := ?_, n4 := ?_, m8 := ?_, st := hr _, sst := renK_sorted (fun s hs => (h.st s hs).1) h.sst, se := ?_, sse := ?_, ed := ?_, cu := ?_ }
  · show (0 : Int) ≤ ((keep.count true : Nat) : Int); omega
  · show ((keep.count true : Nat) : Int) ≤ 4096; have := h.n4; omega
  · show (b.sets.map _).length ≤ 8; rw [List.length_map]; exact h.m8
  · intro l hl s hs
    obtain ⟨r, hr1, rfl⟩ := List.mem_map.1 hl
    exact hr _ s hs
  · intro l hl
    obtain ⟨r, hr1, rfl⟩ := List.mem_map.1 hl
    exact renK_sorted (fun s hs => (h.se r hr1 s hs).1) (h.sse r hr1)
  · intro e he
    obtain ⟨x, hx, h1, h2, rfl⟩ := mem_edK.1 he
    have := cntK_lt h1
    have := cntK_lt h2
    show (0 ≤ ((cntK keep x.fr.toNat : Nat) : Int) ∧ ((cntK keep x.fr.toNat : Nat) : Int) < ((keep.count true : Nat) : Int)) ∧ 0 ≤ ((cntK keep x.to.toNat : Nat) : Int) ∧ ((cntK keep x.to.toNat : Nat) : Int) < ((keep.count true : Nat) : Int)
    omega
  · intro e he
    obtain ⟨x, hx, h1, h2, rfl⟩ := mem_edK.1 he
    exact h.cu x hx
theorem autE_lt {b : Bu} (h : ValidB b) {u v : Nat} (e : autE b u v) : u < b.states.toNat ∧ v < b.states.toNat := by
  obtain ⟨e, he, h1, h2⟩ := e
  have := h.ed e he
  omega
theorem Fair.shift {E : Nat → Nat → Prop} {m : Nat} {M : Nat → Nat → Prop} {v : Nat} {r : Nat → Nat} (h : Fair E m M v r) (i : Nat) : Fair E m M (r i) (fun j => r (i + j)) :=
  ⟨rfl, fun j => h.st (i + j), fun k hk N => by
    obtain ⟨j, h1, h2⟩ := h.inf k hk (i + N)
    exact ⟨j - i, by omega, by show M k (r (i + (j - i))); rw [show i + (j - i) = j by omega]; exact h2⟩⟩
theorem Run.fair {b : Bu} (hv : ValidB b) {w : Nat → Nat} {s : Nat} {r : Nat → Nat} (h : Run b w s r) : Fair (autE b) b.sets.length (autM b) s r :=
  ⟨h.s, fun i => by obtain ⟨e, he, h1, h2, _⟩ := h.st i; exact ⟨e, he, h1, h2⟩, fun k hk N => by
    obtain ⟨i, h1, h2⟩ := h.inf b.sets[k] (List.getElem_mem hk) N
    refine ⟨i, h1, ?_, b.sets[k], List.getElem?_eq_getElem hk, h2⟩
    have := hv.se _ (List.getElem_mem hk) _ h2
    omega⟩
theorem Fair.kept {b : Bu} (hv : ValidB b) {s : Nat} {r : Nat → Nat} (h : Fair (autE b) b.sets.length (autM b) s r) (hs : ∃ s0 : Nat, (s0 : Int) ∈ b.start ∧ Rch (autE b) s0 s) (i : Nat) : (keepB b).getD (r i) false = true := by
  have hn : ∀ j, r j < b.states.toNat := fun j => (autE_lt hv (h.st j)).1
  obtain ⟨s0, h1, h2⟩ := hs
  refine (keepB_get (hn i)).2 ⟨(live_iff (n := b.states.toNat) (fun u w he => autE_lt hv he)).2 ⟨_, h.shift i⟩, s0, h1, h2.trans ?_⟩
  have := h.rch (i := 0) (j := i) (Nat.zero_le _)
  rwa [h.s] at this
theorem trimB_eq {b : Bu} (hv : ValidB b) : trimB b = trimWith b (keepB b) := by unfold trimB; rw [if_pos (checkB_zero.2 hv)]
theorem trim_valid {b : Bu} (hv : ValidB b) : ValidB (trimB b) := by rw [trimB_eq hv]; exact hv.trim keepB_len
theorem trim_states {b : Bu} (hv : ValidB b) : (trimB b).states = (((keepB b).count true : Nat) : Int) := by rw [trimB_eq hv]; rfl
theorem trim_le {b : Bu} (hv : ValidB b) : (trimB b).states ≤ b.states := by
  rw [trim_states hv]
  have : (keepB b).count true ≤ (keepB b).length := List.count_le_length
  rw [keepB_len] at this
  have := hv.n0; omega
noncomputable abbrev kap (b : Bu) (s : Nat) : Nat := cntK (keepB b) s
theorem trim_fair {b : Bu} (hv : ValidB b) {s : Nat} {r : Nat → Nat} (h : Fair (autE b) b.sets.length (autM b) s r) (hk : ∀ i, (keepB b).getD (r i) false = true) : Fair (autE (trimB b)) (trimB b).sets.length (autM (trimB b)) (kap b s) (fun i => kap b (r i)) := by
  rw [trimB_eq hv]
  refine ⟨by show kap b (r 0) = _; rw [h.s], fun i => ?_, fun k hkk N => ?_⟩
  · obtain ⟨e, he, h1, h2⟩ := h.st i
    refine ⟨renE (keepB b) e, mem_edK.2 ⟨e, he, ?_, ?_, rfl⟩, ?_, ?_⟩
    · rw [h1, Int.toNat_natCast]; exact hk i
    · rw [h2, Int.toNat_natCast]; exact hk (i + 1)
    · show ((cntK (keepB b) e.fr.toNat : Nat) : Int) = _; rw [h1, Int.toNat_natCast]
    · show ((cntK (keepB b) e.to.toNat : Nat) : Int) = _; rw [h2, Int.toNat_natCast]
  · have hkk' : k < b.sets.length := by simpa [trimWith] using hkk
    obtain ⟨i, h1, h2, S, h3, h4⟩ := h.inf k hkk' N
    refine ⟨i, h1, ?_, renK (keepB b) S, by show (b.sets.map _)[k]? = _; rw [List.getElem?_map, h3]; rfl, mem_renK.2 ⟨_, h4, by rw [Int.toNat_natCast]; exact hk i, by rw [Int.toNat_natCast]⟩⟩
    show kap b (r i) < (((keepB b).count true : Nat) : Int).toNat
    rw [Int.toNat_natCast]; exact cntK_lt (hk i)
theorem trim_acc {b : Bu} (hv : ValidB b) {w : Nat → Nat} : Acc (trimB b) w ↔ Acc b w := by
  constructor
  · rintro ⟨s, hs, r, hr⟩
    have ht := trim_valid hv
    have hinv : ∀ i, ∃ x, (keepB b).getD x false = true ∧ kap b x = r i := fun i => by
      have h1 := (autE_lt ht ((hr.fair ht).st i)).1
      rw [trim_states hv, Int.toNat_natCast] at h1
      exact cntK_sur h1
    have hex : ∃ q : Nat → Nat, ∀ i, (keepB b).getD (q i) false = true ∧ kap b (q i) = r i := ⟨fun i => Classical.choose (hinv i), fun i => Classical.choose_spec (hinv i)⟩
    obtain ⟨q, hq⟩ := hex
    rw [trimB_eq hv] at hs hr
    have hin : ∀ l : List Int, (∀ s ∈ l, 0 ≤ s) → ∀ i, ((r i : Nat) : Int) ∈ renK (keepB b) l → ((q i : Nat) : Int) ∈ l := fun l h0 i h => by
      obtain ⟨x, h1, h2, h3⟩ := mem_renK.1 h
      have h4 : kap b (q i) = cntK (keepB b) x.toNat := by rw [(hq i).2]; omega
      have h5 := cntK_inj (hq i).1 h2 h4
      have := h0 x h1
      rw [h5, Int.toNat_of_nonneg this]; exact h1
    refine ⟨q 0, ?_, q, rfl, fun i => ?_, fun S hS N => ?_⟩
    · refine hin b.start (fun s hs => (hv.st s hs).1) 0 ?_
      rw [hr.s]; exact hs
    · obtain ⟨e', he', h1, h2, h3⟩ := hr.st i
      obtain ⟨e, he, k1, k2, rfl⟩ := mem_edK.1 he'
      have h1' : cntK (keepB b) e.fr.toNat = kap b (q i) := by rw [(hq i).2]; have : ((cntK (keepB b) e.fr.toNat : Nat) : Int) = r i := h1; omega
      have h2' : cntK (keepB b) e.to.toNat = kap b (q (i + 1)) := by rw [(hq (i + 1)).2]; have : ((cntK (keepB b) e.to.toNat : Nat) : Int) = r (i + 1) := h2; omega
      have g1 := cntK_inj k1 (hq i).1 h1'
      have g2 := cntK_inj k2 (hq (i + 1)).1 h2'
      have := hv.ed e he
      exact ⟨e, he, by omega, by omega, h3⟩
    · obtain ⟨i, h1, h2⟩ := hr.inf (renK (keepB b) S) (List.mem_map.2 ⟨S, hS, rfl⟩) N
      exact ⟨i, h1, hin S (fun s hs => (hv.se S hS s hs).1) i h2⟩
  · rintro ⟨s, hs, r, hr⟩
    have hk := (hr.fair hv).kept hv ⟨s, hs, .refl _⟩
    have hf := trim_fair hv (hr.fair hv) hk
    rw [trimB_eq hv] at hf ⊢
    have hs0 := hk 0
    rw [hr.s] at hs0
    refine ⟨kap b s, mem_renK.2 ⟨_, hs, by rw [Int.toNat_natCast]; exact hs0, by rw [Int.toNat_natCast]⟩, fun i => kap b (r i), by show kap b (r 0) = _; rw [hr.s], fun i => ?_, fun S hS N => ?_⟩
    · obtain ⟨e, he, h1, h2, h3⟩ := hr.st i
      refine ⟨renE (keepB b) e, mem_edK.2 ⟨e, he, ?_, ?_, rfl⟩, ?_, ?_, h3⟩
      · rw [h1, Int.toNat_natCast]; exact hk i
      · rw [h2, Int.toNat_natCast]; exact hk (i + 1)
      · show ((cntK (keepB b) e.fr.toNat : Nat) : Int) = _; rw [h1, Int.toNat_natCast]
      · show ((cntK (keepB b) e.to.toNat : Nat) : Int) = _; rw [h2, Int.toNat_natCast]
    · obtain ⟨S0, hS0, rfl⟩ := List.mem_map.1 hS
      obtain ⟨i, h1, h2⟩ := hr.inf S0 hS0 N
      exact ⟨i, h1, mem_renK.2 ⟨_, h2, by rw [Int.toNat_natCast]; exact hk i, by rw [Int.toNat_natCast]⟩⟩
open Classical in
theorem accV_iffV {b : Bu} {l : La} (hv : ValidB b) (he : checkLV b.vars l = 0) : accV b l = true ↔ Acc b l.at := by
  unfold accV
  rw [if_pos ⟨checkB_zero.2 hv, he⟩, decide_eq_true_iff]
  exact accL_iff hv (checkL_loop he).1
theorem accE_zero {b : Bu} {l : La} (h : accE b l = 0) : ValidB b ∧ checkLV b.vars l = 0 := by
  unfold accE at h
  by_cases hc : checkB b = 0
  · rw [if_pos hc] at h; exact ⟨checkB_zero.1 hc, h⟩
  · rw [if_neg hc] at h; exact absurd h hc
theorem accE_of {b : Bu} {l : La} (hv : ValidB b) (h : checkLV b.vars l = 0) : accE b l = 0 := by unfold accE; rw [if_pos (checkB_zero.2 hv)]; exact h
end Go.Lx


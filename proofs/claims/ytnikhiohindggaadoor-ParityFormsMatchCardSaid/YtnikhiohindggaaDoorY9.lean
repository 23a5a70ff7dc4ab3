/- Contracts of functions of the program (Y9): what each call answers and that it leaves memory as it was. Conditions: those each theorem names. -/
import Derived.Test.YtnikhiohindggaaDoorY8
import Derived.Test.YtnikhiohindggaaDoorZb
set_option linter.unusedSectionVars false
set_option linter.unusedSimpArgs false
set_option linter.unusedVariables false
set_option linter.unnecessarySimpa false
set_option maxHeartbeats 8000000
set_option maxRecDepth 20000
namespace Go.Lx
def prR (p : Par) (s t : Nat) : List Bool := (List.range t).map fun u => decide (prN p s = prN p u)
theorem prR_len (p : Par) (s t : Nat) : (prR p s t).length = t := by simp [prR]
theorem prR_snoc (p : Par) (s t : Nat) : prR p s (t + 1) = prR p s t ++ [decide (prN p s = prN p t)] := by
 unfold prR; rw [List.range_succ, List.map_append]; rfl
structure BstI (p : Par) (s : Nat) (qs : List BRec) : Prop where
 len : qs.length = s
 row : ∀ a (h : a < qs.length), qs[a].xs = prR p a p.next.length
theorem BstI.start (p : Par) : BstI p 0 [] := ⟨rfl, fun a h => absurd h (Nat.not_lt_zero _)⟩
theorem BstI.snoc {p : Par} {s : Nat} {qs : List BRec} (h : BstI p s qs) (b : Option Addr) (c : Nat) : BstI p (s + 1) (qs ++ [⟨b, c, prR p s p.next.length⟩]) :=
 ⟨by rw [List.length_append, h.len]; rfl, fun a ha => by
  by_cases e : a < qs.length
  ·rw [List.getElem_append_left e]; exact h.row a e
  ·have e2 : a = qs.length := by rw [List.length_append] at ha; simp at ha; omega
   subst e2
   rw [List.getElem_append_right (Nat.le_refl _)]
   simp [h.len]⟩
theorem BstI.at_ {p : Par} {qs : List BRec} (h : BstI p p.next.length qs) {a b : Nat} (ha : a < p.next.length) (hb : b < p.next.length) : gB qs a b = decide (prN p a = prN p b) := by
 have h1 : a < qs.length := by rw [h.len]; exact ha
 unfold gB
 rw [List.getElem?_eq_getElem h1]
 show qs[a].xs.getD b false = _
 rw [h.row a h1, List.getD_eq_getElem?_getD]
 unfold prR
 rw [List.getElem?_map, List.getElem?_range hb]; rfl
theorem BstI.bis {p : Par} {qs : List BRec} (h : BstI p p.next.length qs) : BisI p qs :=
 ⟨⟨h.len, fun q hq => by
   obtain ⟨a, ha, e⟩ := List.getElem_of_mem hq
   rw [← e, h.row a ha, prR_len]⟩,
  fun s t hs ht e => by rw [h.at_ hs ht]; exact decide_eq_true e.pr,
  fun s t hs ht e => by rw [h.at_ hs ht] at e; exact of_decide_eq_true e⟩
structure RdI (p : Par) (C : Nat) (qs : List BRec) (ch : Bool) (s t x : Nat) : Prop where
 bi : BisI p qs
 cnt : cntB p.next.length qs + (if ch = true then 1 else 0) ≤ C
 cl : ch = false → ∀ a b y, a < p.next.length → b < p.next.length → y < letN p.d → (a < s ∨ a = s ∧ (b < t ∨ b = t ∧ y < x)) → gB qs a b = true → gB qs (toN p.d a y) (toN p.d b y) = true
section
variable {p : Par} {C s t x : Nat} {qs : List BRec} {ch : Bool}
theorem RdI.start (h : BisI p qs) : RdI p (cntB p.next.length qs) qs false 0 0 0 := ⟨h, by simp, fun _ a b y _ _ _ h9 => by omega⟩
theorem RdI.ok (h : RdI p C qs ch s t x) (hg : gB qs (toN p.d s x) (toN p.d t x) = true) : RdI p C qs ch s t (x + 1) :=
 ⟨h.bi, h.cnt, fun e a b y ha hb hy h9 g => by
  by_cases q : a = s ∧ b = t ∧ y = x
  ·obtain ⟨rfl, rfl, rfl⟩ := q; exact hg
  ·exact h.cl e a b y ha hb hy (by omega) g⟩
theorem RdI.set (hp : ValidP p) (h : RdI p C qs ch s t x) (hs : s < p.next.length) (ht : t < p.next.length) (hx : x < letN p.d) (hno : ¬ gB qs (toN p.d s x) (toN p.d t x) = true) (hi : s < qs.length) (hj : t < qs[s].xs.length) (e : gB qs s t = true) : RdI p C (qs.set s ⟨qs[s].b, qs[s].c, qs[s].xs.set t false⟩) true s t (x + 1) :=
 ⟨h.bi.clear hp hs ht hx hno hi hj, by
  have h1 := cntB_lt hs ht hi hj e
  have h2 := h.cnt
  rw [if_pos rfl]; split at h2 <;> omega, fun e9 => by cases e9⟩
theorem RdI.nextT (h : RdI p C qs ch s t x) (hx : letN p.d ≤ x ∨ ¬ gB qs s t = true) : RdI p C qs ch s (t + 1) 0 :=
 ⟨h.bi, h.cnt, fun e a b y ha hb hy h9 g => by
  by_cases q : a = s ∧ b = t
  ·obtain ⟨rfl, rfl⟩ := q
   rcases hx with hx | hx
   ·exact h.cl e _ _ y ha hb hy (by omega) g
   ·exact absurd g hx
  ·exact h.cl e a b y ha hb hy (by omega) g⟩
theorem RdI.nextS (h : RdI p C qs ch s t 0) (ht : p.next.length ≤ t) : RdI p C qs ch (s + 1) 0 0 :=
 ⟨h.bi, h.cnt, fun e a b y ha hb hy h9 g => h.cl e a b y ha hb hy (by omega) g⟩
theorem RdI.done (hp : ValidP p) (h : RdI p C qs ch s 0 0) (hs : p.next.length ≤ s) (e : ch = false) : BisB p (gB qs) :=
 h.bi.done hp fun a b y ha hb g hy => h.cl e a b y ha hb hy (.inl (by omega)) g
end
section
variable {e : Nat → Nat → Bool} {t k : Nat} {l : List Nat}
theorem qfind_le : ∀ {l : List Nat}, qfind e t l ≤ l.length
 | [] => Nat.le_refl _
 | a :: l => by
  have := qfind_le (l := l)
  rw [qfind]; split
  ·simp
  ·simp only [List.length_cons]; omega
theorem qfind_any (h : qfind e t l < l.length) : l.any (fun k => e k t) = true := by
 by_cases g : l.any (fun k => e k t) = true
 ·exact g
 ·exact absurd (qfind_no g) (by omega)
theorem qfind_step (h : k ≤ qfind e t l) (hk : k < l.length) (hf : ¬ e l[k] t = true) : k + 1 ≤ qfind e t l := by
 rcases Nat.lt_or_eq_of_le h with g | g
 ·exact g
 ·obtain ⟨q, h1, h2⟩ := qfind_get (qfind_any (e := e) (t := t) (l := l) (by omega))
  rw [← g, List.getElem?_eq_getElem hk] at h1
  rw [Option.some.inj h1] at hf; exact absurd h2 hf
theorem qfind_hit (h : k ≤ qfind e t l) (hk : k < l.length) (hf : e l[k] t = true) : qfind e t l = k := by
 rcases Nat.lt_or_eq_of_le h with g | g
 ·rw [qfind_before g (List.getElem?_eq_getElem hk)] at hf; cases hf
 ·exact g.symm
theorem qfind_end (h : k ≤ qfind e t l) (hk : l.length ≤ k) : qfind e t l = k := by
 have := qfind_le (e := e) (t := t) (l := l); omega
theorem qadd_hit (h : qfind e t l < l.length) : qadd e l t = l := if_pos (qfind_any h)
theorem qadd_end (h : qfind e t l = l.length) : qadd e l t = l ++ [t] := if_neg fun g => by have := qfind_lt g; omega
theorem qfind_qadd (he : e t t = true) : ∀ {l : List Nat}, qfind e t (qadd e l t) = qfind e t l := by
 intro l
 unfold qadd
 split
 ·rfl
 ·rename_i g
  induction l with
  | nil => show (if e t t = true then 0 else qfind e t [] + 1) = 0; rw [if_pos he]
  | cons a l ih =>
   have ha : ¬ e a t = true := fun h => g (by simp [h])
   have hl : ¬ l.any (fun k => e k t) = true := fun hl => g (by simp only [List.any_cons, hl, Bool.or_true])
   rw [List.cons_append, qfind, qfind, if_neg ha, if_neg ha, ih hl]
theorem qfind_fin {L : List Nat} (he : e t t = true) (h : qadd e l t <+: L) : qfind e t L = qfind e t l := (qfind_pre h (qadd_any l he)).trans (qfind_qadd he)
end
def qRr (p : Par) (e : Nat → Nat → Bool) (s x : Nat) : List Int := (List.range x).map fun y => ((qfind e (toN p.d s y) (qN e p.d p.next.length) : Nat) : Int)
theorem qRr_len (p : Par) (e : Nat → Nat → Bool) (s x : Nat) : (qRr p e s x).length = x := by simp [qRr]
theorem qRr_app {p : Par} {e : Nat → Nat → Bool} {s x k : Nat} (h : qfind e (toN p.d s x) (qN e p.d p.next.length) = k) : ints (qRr p e s x) ++ [.int .i64 ((k : Nat) : Int)] = ints (qRr p e s (x + 1)) := by
 unfold qRr; rw [List.range_succ, List.map_append]
 show _ = List.map _ (_ ++ [((qfind e (toN p.d s x) (qN e p.d p.next.length) : Nat) : Int)])
 rw [h, List.map_append]; rfl
structure RqI (p : Par) (e : Nat → Nat → Bool) (i : Nat) (rs : List (List Int)) (ps : List Int) : Prop where
 le : i ≤ (qN e p.d i).length
 rows : rs = ((qN e p.d p.next.length).take i).map (qRow e p.d (qN e p.d p.next.length))
 prs : ps = ((qN e p.d p.next.length).take i).map fun s => ((prN p s : Nat) : Int)
theorem RqI.start (p : Par) (e : Nat → Nat → Bool) : RqI p e 0 [] [] := ⟨Nat.zero_le _, rfl, rfl⟩
section
variable {p : Par} (hp : ValidP p) {e : Nat → Nat → Bool} (he : BisB p e)
include hp he
theorem RqI.lt {i : Nat} (hi : i < (qN e p.d i).length) : i < p.next.length := Nat.lt_of_lt_of_le hi (qN_len hp he i)
theorem RqI.get {i : Nat} (hi : i < (qN e p.d i).length) : (qN e p.d p.next.length)[i]? = some (qN e p.d i)[i] := by
 obtain ⟨r, hr⟩ := qN_pre e p.d (i := i) (j := p.next.length) (Nat.le_of_lt (RqI.lt hp he hi))
 rw [← hr, List.getElem?_append_left hi, List.getElem?_eq_getElem hi]
omit he in
theorem RqI.sn {i s : Nat} (hs : (qN e p.d i)[i]? = some s) : s < p.next.length := qN_lt hp e i _ (List.mem_of_getElem? hs)
theorem RqI.letter {i x s : Nat} (hs : (qN e p.d i)[i]? = some s) (hx : x < letN p.d) : qfind e (toN p.d s x) (qN e p.d p.next.length) = qfind e (toN p.d s x) (qM e p.d (qN e p.d i) s x) := by
 have hsn := RqI.sn hp hs
 have hi := (List.getElem?_eq_some_iff.1 hs).1
 have ht := (hp.val.toN_lt hsn hx).1
 refine qfind_fin ((he _ _ ht ht).2 (Bis.refl p _)) ?_
 show qM e p.d (qN e p.d i) s (x + 1) <+: _
 refine (qM_pre e p.d _ _ (show x + 1 ≤ letN p.d from hx)).trans ?_
 rw [← qN_step hs]
 exact qN_pre e p.d (RqI.lt hp he hi)
theorem RqI.next {i s : Nat} {rs : List (List Int)} {ps : List Int} (h : RqI p e i rs ps) (hs : (qN e p.d i)[i]? = some s) : RqI p e (i + 1) (rs ++ [qRr p e s (letN p.d)]) (ps ++ [((prN p s : Nat) : Int)]) := by
 have hi := (List.getElem?_eq_some_iff.1 hs).1
 have hg := RqI.get hp he hi
 rw [← List.getElem?_eq_getElem hi, hs] at hg
 have ht : (qN e p.d p.next.length).take (i + 1) = (qN e p.d p.next.length).take i ++ [s] := by rw [List.take_add_one, hg]; rfl
 refine ⟨?_, ?_, ?_⟩
 ·exact Nat.le_trans hi (qN_pre e p.d (Nat.le_succ i)).length_le
 ·rw [ht, List.map_append, ← h.rows]; rfl
 ·rw [ht, List.map_append, ← h.prs]; rfl
theorem RqI.len {i : Nat} {rs : List (List Int)} {ps : List Int} (h : RqI p e i rs ps) : rs.length = i ∧ ps.length = i := by
 have h1 := h.le
 have h2 := qN_len hp he i
 have h3 := (qN_pre e p.d (i := i) (j := p.next.length) (by omega)).length_le
 constructor
 ·rw [h.rows, List.length_map, List.length_take]; omega
 ·rw [h.prs, List.length_map, List.length_take]; omega
theorem RqI.mlen {i s x : Nat} (hs : (qN e p.d i)[i]? = some s) (hx : x ≤ letN p.d) : (qM e p.d (qN e p.d i) s x).length ≤ p.next.length :=
 apart_len hp he (apart_qM (apart_qN e p.d i) s x) (qM_lt hp e (qN_lt hp e i) (RqI.sn hp hs) x hx)
omit hp he in
theorem natsM_at {l : List Nat} {i s x : Nat} (hs : l[i]? = some s) : (nats (qM e p.d l s x))[i]? = some (.int .i64 ((s : Nat) : Int)) := by
 obtain ⟨r, hr⟩ := qM_pre e p.d l s (Nat.zero_le x)
 have hi := (List.getElem?_eq_some_iff.1 hs).1
 rw [← hr]
 show (nats (l ++ r))[i]? = _
 rw [List.getElem?_map, List.getElem?_append_left hi, hs]; rfl
omit hp he in
theorem natsM_lt {l : List Nat} {i s x : Nat} (hs : l[i]? = some s) : i < (qM e p.d l s x).length := by
 have h1 := (qM_pre e p.d l s (Nat.zero_le x)).length_le
 have hi := (List.getElem?_eq_some_iff.1 hs).1
 exact Nat.lt_of_lt_of_le hi h1
theorem RqI.done {i : Nat} {rs : List (List Int)} {ps : List Int} (h : RqI p e i rs ps) (hi : ¬ i < (qN e p.d i).length) : (⟨p.vars, 0, rs, ps⟩ : Par) = quoP e p := by
 have hl := qN_len hp he i
 have h1 := h.le
 have e1 : qN e p.d p.next.length = qN e p.d i := qN_stop (by omega) _ (by omega)
 have e2 : (qN e p.d p.next.length).take i = qN e p.d p.next.length := List.take_of_length_le (by rw [e1]; omega)
 rw [h.rows, h.prs, e2]; rfl
end
theorem hole_set2 {l r : List Value} {s : Nat} {v w : Value} (hl : l.length = s) : (l ++ v :: r).set s w = l ++ w :: r := by
 rw [List.set_append_right _ _ (by omega), hl, Nat.sub_self]; rfl
theorem hole_nil {n s : Nat} (z : Value) (h : s < n) : List.replicate (n - s) z = z :: List.replicate (n - (s + 1)) z := by
 rw [show n - s = (n - (s + 1)) + 1 by omega, List.replicate_succ]
theorem prR_app (p : Par) (s t : Nat) : bools (prR p s t) ++ [.bool (decide (((prN p s : Nat) : Int) = ((prN p t : Nat) : Int)))] = bools (prR p s (t + 1)) := by
 rw [prR_snoc, show bools (prR p s t ++ [decide (prN p s = prN p t)]) = bools (prR p s t) ++ [.bool (decide (prN p s = prN p t))] by simp]
 rw [show decide (((prN p s : Nat) : Int) = ((prN p t : Nat) : Int)) = decide (prN p s = prN p t) from decide_eq_decide.2 (by omega)]
end Go.Lx


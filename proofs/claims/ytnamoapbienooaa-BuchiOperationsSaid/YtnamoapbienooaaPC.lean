/- Contracts of functions of the program (PC): what each call answers and that it leaves memory as it was. Conditions: those each theorem names. -/
import Derived.Test.YtnamoapbienooaaPB
import Derived.Test.YtnamoapbienooaaTrmL
import Derived.Test.YtnamoapbienooaaEndB
set_option linter.unusedSectionVars false
set_option linter.unusedSimpArgs false
set_option linter.unusedVariables false
set_option linter.unnecessarySimpa false
namespace Go.Proofs.Ytnamoapbienooaa
open Go.Lx Go.RowKit
set_option linter.unusedVariables false
theorem longB_st {b : Bu} (h : ¬ longB b = true) (hv : ValidB b) : b.states.toNat ≤ 20 := by
  have h4 := hv.n4
  unfold longB longN at h
  rw [Bool.or_eq_true, not_or, decide_eq_true_iff] at h
  omega
theorem edges_deg {b : Bu} (h : ¬ longB b = true) (hB : BuB b) : (dgB b).edges.length ≤ 480 := by
  by_cases he : degE b = 0
  · rw [show dgB b = degB b by unfold dgB; rw [if_pos he]]
    have hs := longB_ed h
    exact (degB_sz hB (degE_zero he).1 hs.1 hs.2.1 hs.2.2.2).2.1
  · rw [show dgB b = zeroBu by unfold dgB; rw [if_neg he]]; exact Nat.zero_le _
theorem edges_trim {b : Bu} (h : ¬ longB b = true) : (trimB b).edges.length ≤ 60 := by
  by_cases he : checkB b = 0
  · rw [trimB_eq (checkB_zero.1 he)]
    exact Nat.le_trans (edK_len _ _) (longB_ed h).2.1
  · rw [show trimB b = zeroBu by unfold trimB; rw [if_neg he]]; exact Nat.zero_le _
theorem edges_un {a b : Bu} (ha : ¬ longB a = true) (hb : ¬ longB b = true) (hA : BuB a) (hB : BuB b) : (unB a b).edges.length ≤ 960 := by
  unfold unB
  by_cases he : unE a b = 0
  · rw [if_pos he]
    have h1 : degE a = 0 ∧ degE b = 0 := by
      unfold unE at he
      by_cases h1 : pairE a b = 0
      · rw [if_neg (fun h => h h1)] at he
        by_cases h2 : degE a = 0
        · rw [if_neg (fun h => h h2)] at he
          by_cases h3 : degE b = 0
          · exact ⟨h2, h3⟩
          · rw [if_pos h3] at he; exact absurd he h3
        · rw [if_pos h2] at he; exact absurd he h2
      · rw [if_pos h1] at he; exact absurd he h1
    have ea := edges_deg ha hA; have eb := edges_deg hb hB
    rw [show dgB a = degB a by unfold dgB; rw [if_pos h1.1]] at ea
    rw [show dgB b = degB b by unfold dgB; rw [if_pos h1.2]] at eb
    show ((degB a).edges ++ _).length ≤ _
    rw [List.length_append, List.length_map]; omega
  · rw [if_neg he]; exact Nat.zero_le _
theorem edges_in {a b : Bu} (ha : ¬ longB a = true) (hb : ¬ longB b = true) : (inrB a b).edges.length ≤ 3600 := by
  unfold inrB
  split
  · show (inEs _ a.edges b.edges).length ≤ _
    have h1 := inEs_len b.states.toNat a.edges b.edges
    have h2 : a.edges.length * b.edges.length ≤ 60 * 60 := Nat.mul_le_mul (longB_ed ha).2.1 (longB_ed hb).2.1
    omega
  · exact Nat.zero_le _
theorem acc_as {b c : Bu} {l : La} (hv : ValidB b) (hc : ValidB c) (hcv : c.vars = b.vars) (hl : checkLV b.vars l = 0) {p : Bool} (h : Acc c l.at ↔ p = true) : (accV c l && decide (accE c l = 0)) = p := by
  have hlc : checkLV c.vars l = 0 := by rw [hcv]; exact hl
  rw [accE_of hc hlc, decide_eq_true rfl, Bool.and_true, Bool.eq_iff_iff, accV_iffV hc hlc]; exact h
theorem ops_one {b : Bu} {l : La} (h : ¬ longB b = true) (h0 : accE b l = 0) :
    checkB b = 0 ∧ checkLV b.vars l = 0 ∧ degE b = 0 ∧ (dgB b).sets.length = 1 ∧ (trimB b).states ≤ b.states ∧ (accV (dgB b) l && decide (accE (dgB b) l = 0)) = accV b l ∧ (accV (trimB b) l && decide (accE (trimB b) l = 0)) = accV b l := by
  obtain ⟨hv, hl⟩ := accE_zero h0
  have h20 := longB_st h hv
  have hm8 := hv.m8
  have hn : b.sets.length * b.states.toNat ≤ 4096 := by
    have := Nat.mul_le_mul hm8 h20; omega
  have hE : degE b = 0 := by
    unfold degE; rw [checkB_zero.2 hv, if_neg (fun h => h rfl), if_neg (by omega)]
  have hd : dgB b = degB b := by unfold dgB; rw [if_pos hE]
  refine ⟨checkB_zero.2 hv, hl, hE, by rw [hd]; exact deg_len b, trim_le hv, ?_, ?_⟩
  · rw [hd]
    exact acc_as hv (deg_valid hv hn) rfl hl ((acc_deg hv hn).trans (accV_iffV hv hl).symm)
  · exact acc_as hv (trim_valid hv) (by rw [trimB_eq hv]; rfl) hl ((trim_acc hv).trans (accV_iffV hv hl).symm)
theorem ops_ne {a b : Bu} (ha : checkB a = 0) (hb : checkB b = 0) (hv : a.vars ≠ b.vars) : unE a b = 7 ∧ inE a b = 7 := by
  have hp : pairE a b = 7 := by unfold pairE; rw [if_neg (fun h => h ha), if_neg (fun h => h hb), if_pos hv]
  unfold unE inE
  rw [hp]; exact ⟨rfl, rfl⟩
theorem ops_two {a b : Bu} {l : La} (h1 : ¬ longB a = true) (h2 : ¬ longB b = true) (e1 : accE a l = 0) (e2 : accE b l = 0) (hv : a.vars = b.vars) :
    unE a b = 0 ∧ (unB a b).sets.length = 1 ∧ (accV (unB a b) l && decide (accE (unB a b) l = 0)) = (accV a l || accV b l) ∧ (inE a b = 4 ∨ inE a b = 0 ∧ (accV (inrB a b) l && decide (accE (inrB a b) l = 0)) = (accV a l && accV b l)) := by
  obtain ⟨va, la⟩ := accE_zero e1
  obtain ⟨vb, lb⟩ := accE_zero e2
  have ha20 := longB_st h1 va; have hb20 := longB_st h2 vb
  have ha8 := va.m8; have hb8 := vb.m8
  have na : a.sets.length * a.states.toNat ≤ 160 := Nat.mul_le_mul ha8 ha20
  have nb : b.sets.length * b.states.toNat ≤ 160 := Nat.mul_le_mul hb8 hb20
  obtain ⟨ca, _, da, _⟩ := ops_one h1 e1
  obtain ⟨cb, _, db, _⟩ := ops_one h2 e2
  have hp : pairE a b = 0 := by unfold pairE; rw [if_neg (fun h => h ca), if_neg (fun h => h cb), if_neg (fun h => h hv)]
  have xa : (degB a).states.toNat ≤ 160 := by
    show (((a.states.toNat * max a.sets.length 1 : Nat) : Int)).toNat ≤ 160
    rw [Int.toNat_natCast]; exact Nat.le_trans (Nat.mul_le_mul ha20 (show max a.sets.length 1 ≤ 8 by omega)) (Nat.le_refl _)
  have xb : (degB b).states.toNat ≤ 160 := by
    show (((b.states.toNat * max b.sets.length 1 : Nat) : Int)).toNat ≤ 160
    rw [Int.toNat_natCast]; exact Nat.le_trans (Nat.mul_le_mul hb20 (show max b.sets.length 1 ≤ 8 by omega)) (Nat.le_refl _)
  have hu : unE a b = 0 := by
    unfold unE; rw [if_neg (fun h => h hp), if_neg (fun h => h da), if_neg (fun h => h db), if_neg (by omega)]
  have hj : unB a b = joinB (degB a) (degB b) := by unfold unB; rw [if_pos hu]
  have dva := deg_valid va (by omega : a.sets.length * a.states.toNat ≤ 4096)
  have dvb := deg_valid vb (by omega : b.sets.length * b.states.toNat ≤ 4096)
  refine ⟨hu, by rw [hj]; rfl, ?_, ?_⟩
  · rw [hj]
    refine acc_as va (join_valid dva dvb hv (by omega) (deg_len a) (deg_len b)) rfl la ((acc_join dva dvb (deg_len a) (deg_len b)).trans ?_)
    rw [acc_deg va (by omega), acc_deg vb (by omega), Bool.or_eq_true, accV_iffV va la, accV_iffV vb lb]
  · have hi : inAll a b ≤ 400 := Nat.mul_le_mul ha20 hb20
    by_cases h8 : 8 < a.sets.length + b.sets.length
    · left; unfold inE; rw [if_neg (fun h => h hp), if_neg (by omega), if_pos h8]
    · right
      have hz : inE a b = 0 := by unfold inE; rw [if_neg (fun h => h hp), if_neg (by omega), if_neg h8]
      refine ⟨hz, ?_⟩
      rw [show inrB a b = interB a b by unfold inrB; rw [if_pos hz]]
      refine acc_as va (inter_valid va vb hv (by omega) (by omega)) rfl la ((acc_inter va vb).trans ?_)
      rw [Bool.and_eq_true, accV_iffV va la, accV_iffV vb lb]
end Go.Proofs.Ytnamoapbienooaa


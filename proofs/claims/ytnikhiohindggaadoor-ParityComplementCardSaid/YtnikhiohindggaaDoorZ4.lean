/- Contracts of functions of the program (Z4): what each call answers and that it leaves memory as it was. Conditions: those each theorem names. -/
import Derived.Test.YtnikhiohindggaaDoorCoreK
import Derived.Test.YtnikhiohindggaaDoorCloseY
import Derived.Test.YtnikhiohindggaaDoorZ3
set_option linter.unusedSectionVars false
set_option linter.unusedSimpArgs false
set_option linter.unusedVariables false
set_option linter.unnecessarySimpa false
set_option maxHeartbeats 8000000
set_option maxRecDepth 20000
namespace Go.Proofs.YtnikhiohindggaaDoor
open Go.Lx Go.RowKit _root_.Go.Proofs.Tryd
theorem acB_co {p c : Par} {l : La} (h0 : ruE p l = 0) (h1 : ruE c l = 0) (h2 : ruV c l = ruV p l + 1) : (acB p l == acB c l) = false := by
  rw [acB_pos h0, acB_pos h1, h2]
  rcases Nat.mod_two_eq_zero_or_one (ruV p l) with e | e
  · have e2 : (ruV p l + 1) % 2 = 1 := by omega
    rw [e, e2]; rfl
  · have e2 : (ruV p l + 1) % 2 = 0 := by omega
    rw [e, e2]; rfl
theorem difCo (w : World) [Tab Tryd.prog w] [Tab Tryd.prog w] (p : Par) (k : DK) (h : AtP w p k) (C : Par) (k2 : DK) (h2 : AtP w C k2) (hB : ParC p) (hC : ParC C) (h0 : coE p = 0) (e : coV p = C) (hn : p.next.length ≤ 6) :
    PureT Tryd.prog 29 [pV p k, pV C k2] w fun v N => ∃ (l : La) (kl : LK), v = .tuple #[lV l kl, .bool true, .int .i64 0] ∧ N = [lI 5 l kl] :=
  (parDif w p k h C k2 h2 hB hC (fun _ => by rw [← e, (coV_parts h0).2]; exact Nat.le_trans (Nat.mul_le_mul hn hn) (by decide))).mono fun v N hR => by
    obtain ⟨l, kl, b, e9, rfl, rfl, hD⟩ := hR
    obtain ⟨rfl, rfl⟩ := coV_dif h0 (by omega) (e ▸ hD)
    exact ⟨l, kl, rfl, rfl⟩
theorem difBk (w : World) [Tab Tryd.prog w] [Tab Tryd.prog w] (p : Par) (k : DK) (h : AtP w p k) (C R D : Par) (k2 : DK) (h2 : AtP w D k2) (hB : ParC p) (hD : ParC D) (h0 : coE p = 0) (eC : coV p = C) (eR : rdV C = R) (eD : coV R = D) (hn : p.next.length ≤ 6) :
    PureT Tryd.prog 29 [pV p k, pV D k2] w fun v N => ∃ (l : La) (kl : LK) (b : Bool) (e : Nat), v = .tuple #[lV l kl, .bool b, .int .i64 ((e : Nat) : Int)] ∧ N = [lI 5 l kl] ∧ (coE R = 0 → b = false ∧ e = 0) := by
  subst eC eR eD
  exact (parDif w p k h _ k2 h2 hB hD (fun _ => Nat.le_trans (Nat.mul_le_mul hn (Nat.le_trans (back_len h0) hn)) (by decide))).mono fun v N hR => by
    obtain ⟨l, kl, b, e9, rfl, rfl, hD⟩ := hR
    exact ⟨l, kl, b, e9, rfl, rfl, fun hj => coV_back h0 hj hD⟩
end Go.Proofs.YtnikhiohindggaaDoor


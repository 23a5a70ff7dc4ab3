/- Contracts of functions of the program (X6): what each call answers and that it leaves memory as it was. Conditions: those each theorem names. -/
import Derived.Test.YtnikhiohindggaaDoorCoreL
import Derived.Test.YtnikhiohindggaaDoorX5
set_option linter.unusedSectionVars false
set_option linter.unusedSimpArgs false
set_option linter.unusedVariables false
set_option linter.unnecessarySimpa false
set_option maxHeartbeats 8000000
set_option maxRecDepth 20000
namespace Go.Proofs.YtnikhiohindggaaDoor
open Go.Lx Go.RowKit _root_.Go.Proofs.Tryd
theorem emptyR (w : World) [Tab Tryd.prog w] (p : Par) (k : DK) (h : AtP w p k) (hp : ValidP p) :
  PureT Tryd.prog 31 [pV p k] w fun v N => ∃ b : Bool, v = .bool b ∧ (b = true ↔ ¬ witP p) ∧ N = [] := by
 refine CallT.enter func31 rfl ntmps31 rfl ?_
 have hL6 : 2 ^ p.vars.toNat ≤ 64 := hp.letN6
 have h0 := hp.val.v0
 have hv6 : p.vars ≤ 6 := hp.val.v6
 have h09 : 0 ≤ p.vars := h0
 have hvv : Value.int .i64 p.vars = vI ((p.vars.toNat : Nat) : Int) := congrArg (Value.int .i64) (Int.toNat_of_nonneg h0).symm
 have hn4 := hp.n4
 refine T.s (T.rg (TO.l rfl (l_box (v := (pV p k)) (cs := (pC p k)) rfl rfl (fun bx1 => ?_))))
 refine TO.qa rfl (TO.nl ?_)
 refine T.cut (fun ρ O => ∃ (zP zA zN zF : Nat), O = [oI zP 25 [(vI p.vars), (vI 0), (.slice (aD zN) 1 1), (.slice (aD zF) 1 1)], rowI (aD zA) (2 ^ p.vars.toNat) 3 1 (List.replicate (2 ^ p.vars.toNat) (vI 0)), rowI (aD zN) 1 23 1 [(.slice (aD zA) (2 ^ p.vars.toNat) (2 ^ p.vars.toNat))], rowI (aD zF) 1 3 1 [vI 1], oI bx1 25 (pC p k)] ∧ Heads [(0, (pV p k)), (1, (.pointer (aD bx1))), (2, .bool false), (3, (.pointer (aD zP)))] ρ) ?_ ?_
 ·refine T.tree [oI bx1 25 (pC p k)] 12 mixed rfl (Sub.pick [0] rfl) (fun _ _ _ h => h) ?_
  refine RO.quietT 0 rfl (by kernel_rfl) (q_fa uT25 rfl inf3 rfl rfl) ?_
  refine RO.quietT 1 rfl (by kernel_rfl) (q_lb 0 uT3 rfl rfl rfl rfl) ?_
  refine RO.quietT 2 rfl (by kernel_rfl) (q_fa uT25 rfl inf3 rfl rfl) ?_
  refine RO.quietT 3 rfl (by kernel_rfl) (QT.cast (q_lb 0 uT3 rfl rfl rfl rfl) (v' := vI ((p.vars.toNat : Nat) : Int)) hvv) ?_
  refine RO.quietT 4 rfl (by kernel_rfl) (q_conv_id uT3 uT70 rfl (by first | rfl | exact wrap64_id ⟨by omega, by omega⟩ | exact wrap8 (by omega) | exact wrapU64 (by omega))) ?_
  refine RO.quietT 5 rfl (by kernel_rfl) (q_shl1 (v := p.vars.toNat) rfl rfl (by omega)) ?_
  refine RO.fork [6, 8, 10] (by kernel_rfl) rfl ⟨⟨_, rfl, rfl, l_makeSlice (m := 2 ^ p.vars.toNat) uT23 inf3 rfl rfl (by omega) (by omega) (fun zA => ⟨Sub.pick [1] rfl, ?_⟩)⟩, ⟨_, rfl, rfl, l_build1 (v := vI 1) uT23 inf3 rfl rfl rfl (fun zF => ⟨Sub.pick [1] rfl, ?_⟩)⟩, ⟨_, rfl, rfl, l_alloc inf25 rfl (fun zP => ⟨Sub.pick [1] rfl, ?_⟩)⟩, trivial⟩
  ·refine RO.fork [7, 8, 10] (by kernel_rfl) rfl ⟨⟨_, rfl, rfl, l_build1 (v := (.slice (aD zA) (2 ^ p.vars.toNat) (2 ^ p.vars.toNat))) uT22 inf23 rfl rfl rfl (fun zN => ⟨Sub.pick [2] rfl, ?_⟩)⟩, ⟨_, rfl, rfl, l_build1 (v := vI 1) uT23 inf3 rfl rfl rfl (fun zF => ⟨Sub.pick [2] rfl, ?_⟩)⟩, ⟨_, rfl, rfl, l_alloc inf25 rfl (fun zP => ⟨Sub.pick [2] rfl, ?_⟩)⟩, trivial⟩
   ·refine RO.fork [8, 10] (by kernel_rfl) rfl ⟨⟨_, rfl, rfl, l_build1 (v := vI 1) uT23 inf3 rfl rfl rfl (fun zF => ⟨Sub.pick [3] rfl, ?_⟩)⟩, ⟨_, rfl, rfl, l_alloc inf25 rfl (fun zP => ⟨Sub.pick [3] rfl, ?_⟩)⟩, trivial⟩
    ·refine RO.quietT 9 rfl (by kernel_rfl) (q_build (cs := [(vI p.vars), (vI 0), (.slice (aD zN) 1 1), (.slice (aD zF) 1 1)]) plan25 inf25 (by kernel_rfl)) ?_
     refine RO.fork [10] (by kernel_rfl) rfl ⟨⟨_, rfl, rfl, l_alloc inf25 rfl (fun zP => ⟨Sub.pick [4] rfl, ?_⟩)⟩, trivial⟩
     refine RO.fork [11] (by kernel_rfl) rfl ⟨⟨_, rfl, rfl, l_sb (v := (.agg #[(vI p.vars), (vI 0), (.slice (aD zN) 1 1), (.slice (aD zF) 1 1)])) (vs := [(vI p.vars), (vI 0), (.slice (aD zN) 1 1), (.slice (aD zF) 1 1)]) 0 inf25 rfl rfl rfl rfl rfl rfl (by simp [putL]) ⟨Sub.pick [4] rfl, ?_⟩⟩, trivial⟩
     exact RO.fin (by kernel_rfl) ⟨zP, zA, zN, zF, rfl, ⟨rfl, rfl, rfl, rfl, trivial⟩⟩ (Sub.pick [0, 2, 1, 0, 0] rfl)
    refine RO.fork [8] (by kernel_rfl) rfl ⟨⟨_, rfl, rfl, l_build1 (v := vI 1) uT23 inf3 rfl rfl rfl (fun zF => ⟨Sub.pick [4] rfl, ?_⟩)⟩, trivial⟩
    refine RO.quietT 9 rfl (by kernel_rfl) (q_build (cs := [(vI p.vars), (vI 0), (.slice (aD zN) 1 1), (.slice (aD zF) 1 1)]) plan25 inf25 (by kernel_rfl)) ?_
    refine RO.fork [11] (by kernel_rfl) rfl ⟨⟨_, rfl, rfl, l_sb (v := (.agg #[(vI p.vars), (vI 0), (.slice (aD zN) 1 1), (.slice (aD zF) 1 1)])) (vs := [(vI p.vars), (vI 0), (.slice (aD zN) 1 1), (.slice (aD zF) 1 1)]) 1 inf25 rfl rfl rfl rfl rfl rfl (by simp [putL]) ⟨Sub.pick [4] rfl, ?_⟩⟩, trivial⟩
    exact RO.fin (by kernel_rfl) ⟨zP, zA, zN, zF, rfl, ⟨rfl, rfl, rfl, rfl, trivial⟩⟩ (Sub.pick [1, 2, 1, 0, 0] rfl)
   ·refine RO.fork [7, 10] (by kernel_rfl) rfl ⟨⟨_, rfl, rfl, l_build1 (v := (.slice (aD zA) (2 ^ p.vars.toNat) (2 ^ p.vars.toNat))) uT22 inf23 rfl rfl rfl (fun zN => ⟨Sub.pick [3] rfl, ?_⟩)⟩, ⟨_, rfl, rfl, l_alloc inf25 rfl (fun zP => ⟨Sub.pick [3] rfl, ?_⟩)⟩, trivial⟩
    ·refine RO.quietT 9 rfl (by kernel_rfl) (q_build (cs := [(vI p.vars), (vI 0), (.slice (aD zN) 1 1), (.slice (aD zF) 1 1)]) plan25 inf25 (by kernel_rfl)) ?_
     refine RO.fork [10] (by kernel_rfl) rfl ⟨⟨_, rfl, rfl, l_alloc inf25 rfl (fun zP => ⟨Sub.pick [4] rfl, ?_⟩)⟩, trivial⟩
     refine RO.fork [11] (by kernel_rfl) rfl ⟨⟨_, rfl, rfl, l_sb (v := (.agg #[(vI p.vars), (vI 0), (.slice (aD zN) 1 1), (.slice (aD zF) 1 1)])) (vs := [(vI p.vars), (vI 0), (.slice (aD zN) 1 1), (.slice (aD zF) 1 1)]) 0 inf25 rfl rfl rfl rfl rfl rfl (by simp [putL]) ⟨Sub.pick [4] rfl, ?_⟩⟩, trivial⟩
     exact RO.fin (by kernel_rfl) ⟨zP, zA, zN, zF, rfl, ⟨rfl, rfl, rfl, rfl, trivial⟩⟩ (Sub.pick [0, 2, 0, 0, 0] rfl)
    refine RO.fork [7] (by kernel_rfl) rfl ⟨⟨_, rfl, rfl, l_build1 (v := (.slice (aD zA) (2 ^ p.vars.toNat) (2 ^ p.vars.toNat))) uT22 inf23 rfl rfl rfl (fun zN => ⟨Sub.pick [4] rfl, ?_⟩)⟩, trivial⟩
    refine RO.quietT 9 rfl (by kernel_rfl) (q_build (cs := [(vI p.vars), (vI 0), (.slice (aD zN) 1 1), (.slice (aD zF) 1 1)]) plan25 inf25 (by kernel_rfl)) ?_
    refine RO.fork [11] (by kernel_rfl) rfl ⟨⟨_, rfl, rfl, l_sb (v := (.agg #[(vI p.vars), (vI 0), (.slice (aD zN) 1 1), (.slice (aD zF) 1 1)])) (vs := [(vI p.vars), (vI 0), (.slice (aD zN) 1 1), (.slice (aD zF) 1 1)]) 1 inf25 rfl rfl rfl rfl rfl rfl (by simp [putL]) ⟨Sub.pick [4] rfl, ?_⟩⟩, trivial⟩
    exact RO.fin (by kernel_rfl) ⟨zP, zA, zN, zF, rfl, ⟨rfl, rfl, rfl, rfl, trivial⟩⟩ (Sub.pick [1, 2, 0, 0, 0] rfl)
   refine RO.fork [7, 8] (by kernel_rfl) rfl ⟨⟨_, rfl, rfl, l_build1 (v := (.slice (aD zA) (2 ^ p.vars.toNat) (2 ^ p.vars.toNat))) uT22 inf23 rfl rfl rfl (fun zN => ⟨Sub.pick [3] rfl, ?_⟩)⟩, ⟨_, rfl, rfl, l_build1 (v := vI 1) uT23 inf3 rfl rfl rfl (fun zF => ⟨Sub.pick [3] rfl, ?_⟩)⟩, trivial⟩
   ·refine RO.fork [8] (by kernel_rfl) rfl ⟨⟨_, rfl, rfl, l_build1 (v := vI 1) uT23 inf3 rfl rfl rfl (fun zF => ⟨Sub.pick [4] rfl, ?_⟩)⟩, trivial⟩
    refine RO.quietT 9 rfl (by kernel_rfl) (q_build (cs := [(vI p.vars), (vI 0), (.slice (aD zN) 1 1), (.slice (aD zF) 1 1)]) plan25 inf25 (by kernel_rfl)) ?_
    refine RO.fork [11] (by kernel_rfl) rfl ⟨⟨_, rfl, rfl, l_sb (v := (.agg #[(vI p.vars), (vI 0), (.slice (aD zN) 1 1), (.slice (aD zF) 1 1)])) (vs := [(vI p.vars), (vI 0), (.slice (aD zN) 1 1), (.slice (aD zF) 1 1)]) 2 inf25 rfl rfl rfl rfl rfl rfl (by simp [putL]) ⟨Sub.pick [4] rfl, ?_⟩⟩, trivial⟩
    exact RO.fin (by kernel_rfl) ⟨zP, zA, zN, zF, rfl, ⟨rfl, rfl, rfl, rfl, trivial⟩⟩ (Sub.pick [2, 2, 1, 0, 0] rfl)
   refine RO.fork [7] (by kernel_rfl) rfl ⟨⟨_, rfl, rfl, l_build1 (v := (.slice (aD zA) (2 ^ p.vars.toNat) (2 ^ p.vars.toNat))) uT22 inf23 rfl rfl rfl (fun zN => ⟨Sub.pick [4] rfl, ?_⟩)⟩, trivial⟩
   refine RO.quietT 9 rfl (by kernel_rfl) (q_build (cs := [(vI p.vars), (vI 0), (.slice (aD zN) 1 1), (.slice (aD zF) 1 1)]) plan25 inf25 (by kernel_rfl)) ?_
   refine RO.fork [11] (by kernel_rfl) rfl ⟨⟨_, rfl, rfl, l_sb (v := (.agg #[(vI p.vars), (vI 0), (.slice (aD zN) 1 1), (.slice (aD zF) 1 1)])) (vs := [(vI p.vars), (vI 0), (.slice (aD zN) 1 1), (.slice (aD zF) 1 1)]) 2 inf25 rfl rfl rfl rfl rfl rfl (by simp [putL]) ⟨Sub.pick [4] rfl, ?_⟩⟩, trivial⟩
   exact RO.fin (by kernel_rfl) ⟨zP, zA, zN, zF, rfl, ⟨rfl, rfl, rfl, rfl, trivial⟩⟩ (Sub.pick [2, 2, 0, 0, 0] rfl)
  ·refine RO.fork [6, 10] (by kernel_rfl) rfl ⟨⟨_, rfl, rfl, l_makeSlice (m := 2 ^ p.vars.toNat) uT23 inf3 rfl rfl (by omega) (by omega) (fun zA => ⟨Sub.pick [2] rfl, ?_⟩)⟩, ⟨_, rfl, rfl, l_alloc inf25 rfl (fun zP => ⟨Sub.pick [2] rfl, ?_⟩)⟩, trivial⟩
   ·refine RO.fork [7, 10] (by kernel_rfl) rfl ⟨⟨_, rfl, rfl, l_build1 (v := (.slice (aD zA) (2 ^ p.vars.toNat) (2 ^ p.vars.toNat))) uT22 inf23 rfl rfl rfl (fun zN => ⟨Sub.pick [3] rfl, ?_⟩)⟩, ⟨_, rfl, rfl, l_alloc inf25 rfl (fun zP => ⟨Sub.pick [3] rfl, ?_⟩)⟩, trivial⟩
    ·refine RO.quietT 9 rfl (by kernel_rfl) (q_build (cs := [(vI p.vars), (vI 0), (.slice (aD zN) 1 1), (.slice (aD zF) 1 1)]) plan25 inf25 (by kernel_rfl)) ?_
     refine RO.fork [10] (by kernel_rfl) rfl ⟨⟨_, rfl, rfl, l_alloc inf25 rfl (fun zP => ⟨Sub.pick [4] rfl, ?_⟩)⟩, trivial⟩
     refine RO.fork [11] (by kernel_rfl) rfl ⟨⟨_, rfl, rfl, l_sb (v := (.agg #[(vI p.vars), (vI 0), (.slice (aD zN) 1 1), (.slice (aD zF) 1 1)])) (vs := [(vI p.vars), (vI 0), (.slice (aD zN) 1 1), (.slice (aD zF) 1 1)]) 0 inf25 rfl rfl rfl rfl rfl rfl (by simp [putL]) ⟨Sub.pick [4] rfl, ?_⟩⟩, trivial⟩
     exact RO.fin (by kernel_rfl) ⟨zP, zA, zN, zF, rfl, ⟨rfl, rfl, rfl, rfl, trivial⟩⟩ (Sub.pick [0, 1, 0, 0, 0] rfl)
    refine RO.fork [7] (by kernel_rfl) rfl ⟨⟨_, rfl, rfl, l_build1 (v := (.slice (aD zA) (2 ^ p.vars.toNat) (2 ^ p.vars.toNat))) uT22 inf23 rfl rfl rfl (fun zN => ⟨Sub.pick [4] rfl, ?_⟩)⟩, trivial⟩
    refine RO.quietT 9 rfl (by kernel_rfl) (q_build (cs := [(vI p.vars), (vI 0), (.slice (aD zN) 1 1), (.slice (aD zF) 1 1)]) plan25 inf25 (by kernel_rfl)) ?_
    refine RO.fork [11] (by kernel_rfl) rfl ⟨⟨_, rfl, rfl, l_sb (v := (.agg #[(vI p.vars), (vI 0), (.slice (aD zN) 1 1), (.slice (aD zF) 1 1)])) (vs := [(vI p.vars), (vI 0), (.slice (aD zN) 1 1), (.slice (aD zF) 1 1)]) 1 inf25 rfl rfl rfl rfl rfl rfl (by simp [putL]) ⟨Sub.pick [4] rfl, ?_⟩⟩, trivial⟩
    exact RO.fin (by kernel_rfl) ⟨zP, zA, zN, zF, rfl, ⟨rfl, rfl, rfl, rfl, trivial⟩⟩ (Sub.pick [1, 1, 0, 0, 0] rfl)
   refine RO.fork [6] (by kernel_rfl) rfl ⟨⟨_, rfl, rfl, l_makeSlice (m := 2 ^ p.vars.toNat) uT23 inf3 rfl rfl (by omega) (by omega) (fun zA => ⟨Sub.pick [3] rfl, ?_⟩)⟩, trivial⟩
   refine RO.fork [7] (by kernel_rfl) rfl ⟨⟨_, rfl, rfl, l_build1 (v := (.slice (aD zA) (2 ^ p.vars.toNat) (2 ^ p.vars.toNat))) uT22 inf23 rfl rfl rfl (fun zN => ⟨Sub.pick [4] rfl, ?_⟩)⟩, trivial⟩
   refine RO.quietT 9 rfl (by kernel_rfl) (q_build (cs := [(vI p.vars), (vI 0), (.slice (aD zN) 1 1), (.slice (aD zF) 1 1)]) plan25 inf25 (by kernel_rfl)) ?_
   refine RO.fork [11] (by kernel_rfl) rfl ⟨⟨_, rfl, rfl, l_sb (v := (.agg #[(vI p.vars), (vI 0), (.slice (aD zN) 1 1), (.slice (aD zF) 1 1)])) (vs := [(vI p.vars), (vI 0), (.slice (aD zN) 1 1), (.slice (aD zF) 1 1)]) 2 inf25 rfl rfl rfl rfl rfl rfl (by simp [putL]) ⟨Sub.pick [4] rfl, ?_⟩⟩, trivial⟩
   exact RO.fin (by kernel_rfl) ⟨zP, zA, zN, zF, rfl, ⟨rfl, rfl, rfl, rfl, trivial⟩⟩ (Sub.pick [2, 1, 0, 0, 0] rfl)
  refine RO.fork [6, 8] (by kernel_rfl) rfl ⟨⟨_, rfl, rfl, l_makeSlice (m := 2 ^ p.vars.toNat) uT23 inf3 rfl rfl (by omega) (by omega) (fun zA => ⟨Sub.pick [2] rfl, ?_⟩)⟩, ⟨_, rfl, rfl, l_build1 (v := vI 1) uT23 inf3 rfl rfl rfl (fun zF => ⟨Sub.pick [2] rfl, ?_⟩)⟩, trivial⟩
  ·refine RO.fork [7, 8] (by kernel_rfl) rfl ⟨⟨_, rfl, rfl, l_build1 (v := (.slice (aD zA) (2 ^ p.vars.toNat) (2 ^ p.vars.toNat))) uT22 inf23 rfl rfl rfl (fun zN => ⟨Sub.pick [3] rfl, ?_⟩)⟩, ⟨_, rfl, rfl, l_build1 (v := vI 1) uT23 inf3 rfl rfl rfl (fun zF => ⟨Sub.pick [3] rfl, ?_⟩)⟩, trivial⟩
   ·refine RO.fork [8] (by kernel_rfl) rfl ⟨⟨_, rfl, rfl, l_build1 (v := vI 1) uT23 inf3 rfl rfl rfl (fun zF => ⟨Sub.pick [4] rfl, ?_⟩)⟩, trivial⟩
    refine RO.quietT 9 rfl (by kernel_rfl) (q_build (cs := [(vI p.vars), (vI 0), (.slice (aD zN) 1 1), (.slice (aD zF) 1 1)]) plan25 inf25 (by kernel_rfl)) ?_
    refine RO.fork [11] (by kernel_rfl) rfl ⟨⟨_, rfl, rfl, l_sb (v := (.agg #[(vI p.vars), (vI 0), (.slice (aD zN) 1 1), (.slice (aD zF) 1 1)])) (vs := [(vI p.vars), (vI 0), (.slice (aD zN) 1 1), (.slice (aD zF) 1 1)]) 3 inf25 rfl rfl rfl rfl rfl rfl (by simp [putL]) ⟨Sub.pick [4] rfl, ?_⟩⟩, trivial⟩
    exact RO.fin (by kernel_rfl) ⟨zP, zA, zN, zF, rfl, ⟨rfl, rfl, rfl, rfl, trivial⟩⟩ (Sub.pick [3, 2, 1, 0, 0] rfl)
   refine RO.fork [7] (by kernel_rfl) rfl ⟨⟨_, rfl, rfl, l_build1 (v := (.slice (aD zA) (2 ^ p.vars.toNat) (2 ^ p.vars.toNat))) uT22 inf23 rfl rfl rfl (fun zN => ⟨Sub.pick [4] rfl, ?_⟩)⟩, trivial⟩
   refine RO.quietT 9 rfl (by kernel_rfl) (q_build (cs := [(vI p.vars), (vI 0), (.slice (aD zN) 1 1), (.slice (aD zF) 1 1)]) plan25 inf25 (by kernel_rfl)) ?_
   refine RO.fork [11] (by kernel_rfl) rfl ⟨⟨_, rfl, rfl, l_sb (v := (.agg #[(vI p.vars), (vI 0), (.slice (aD zN) 1 1), (.slice (aD zF) 1 1)])) (vs := [(vI p.vars), (vI 0), (.slice (aD zN) 1 1), (.slice (aD zF) 1 1)]) 3 inf25 rfl rfl rfl rfl rfl rfl (by simp [putL]) ⟨Sub.pick [4] rfl, ?_⟩⟩, trivial⟩
   exact RO.fin (by kernel_rfl) ⟨zP, zA, zN, zF, rfl, ⟨rfl, rfl, rfl, rfl, trivial⟩⟩ (Sub.pick [3, 2, 0, 0, 0] rfl)
  refine RO.fork [6] (by kernel_rfl) rfl ⟨⟨_, rfl, rfl, l_makeSlice (m := 2 ^ p.vars.toNat) uT23 inf3 rfl rfl (by omega) (by omega) (fun zA => ⟨Sub.pick [3] rfl, ?_⟩)⟩, trivial⟩
  refine RO.fork [7] (by kernel_rfl) rfl ⟨⟨_, rfl, rfl, l_build1 (v := (.slice (aD zA) (2 ^ p.vars.toNat) (2 ^ p.vars.toNat))) uT22 inf23 rfl rfl rfl (fun zN => ⟨Sub.pick [4] rfl, ?_⟩)⟩, trivial⟩
  refine RO.quietT 9 rfl (by kernel_rfl) (q_build (cs := [(vI p.vars), (vI 0), (.slice (aD zN) 1 1), (.slice (aD zF) 1 1)]) plan25 inf25 (by kernel_rfl)) ?_
  refine RO.fork [11] (by kernel_rfl) rfl ⟨⟨_, rfl, rfl, l_sb (v := (.agg #[(vI p.vars), (vI 0), (.slice (aD zN) 1 1), (.slice (aD zF) 1 1)])) (vs := [(vI p.vars), (vI 0), (.slice (aD zN) 1 1), (.slice (aD zF) 1 1)]) 3 inf25 rfl rfl rfl rfl rfl rfl (by simp [putL]) ⟨Sub.pick [4] rfl, ?_⟩⟩, trivial⟩
  exact RO.fin (by kernel_rfl) ⟨zP, zA, zN, zF, rfl, ⟨rfl, rfl, rfl, rfl, trivial⟩⟩ (Sub.pick [3, 1, 0, 0, 0] rfl)
 rintro ρ O ⟨zP, zA, zN, zF, rfl, hH⟩
 obtain ⟨ρ0, rfl⟩ := hH.elim
 clear hH
 refine T.s ?_
 have hA : vals [(⟨(aD zA), 2 ^ p.vars.toNat, List.replicate (2 ^ p.vars.toNat) 0⟩ : Rec)] = [(.slice (aD zA) (2 ^ p.vars.toNat) (2 ^ p.vars.toNat))] := by simp [Rec.val]
 have hB9 : ints (List.replicate (2 ^ p.vars.toNat) 0) = List.replicate (2 ^ p.vars.toNat) (vI 0) := by simp
 refine T.sub (O' := [oI zP 25 [(vI p.vars), (vI 0), (.slice (aD zN) 1 1), (.slice (aD zF) 1 1)], rowI (aD zA) (2 ^ p.vars.toNat) 3 1 (ints (List.replicate (2 ^ p.vars.toNat) 0)), rowI (aD zN) 1 23 1 (vals [⟨(aD zA), 2 ^ p.vars.toNat, List.replicate (2 ^ p.vars.toNat) 0⟩]), rowI (aD zF) 1 3 1 [vI 1], oI bx1 25 (pC p k)]) (by rw [hA, hB9]; exact Sub.rf) ?_
 refine T.rg (TO.q (q_la 4 uT25 rfl inf25 rfl rfl rfl) (TO.q (q_la 0 uT25 rfl inf25 rfl rfl rfl) ?_))
 have hk16 := fun (w1 : World) (hI : Inv w [oI zP 25 [(vI p.vars), (vI 0), (.slice (aD zN) 1 1), (.slice (aD zF) 1 1)], rowI (aD zA) (2 ^ p.vars.toNat) 3 1 (ints (List.replicate (2 ^ p.vars.toNat) 0)), rowI (aD zN) 1 23 1 (vals [⟨(aD zA), 2 ^ p.vars.toNat, List.replicate (2 ^ p.vars.toNat) 0⟩]), rowI (aD zF) 1 3 1 [vI 1], oI bx1 25 (pC p k)] w1) => (haveI := tbz hI; differR w1 p k (hI.atQ h) (oneP p.vars) ⟨(aD zN), 1, (aD zF), 1, [⟨(aD zA), 2 ^ p.vars.toNat, List.replicate (2 ^ p.vars.toNat) 0⟩]⟩ (hI.atRows (mG 2 rfl) (mG 3 rfl) (fun q9 h9 => by rw [List.mem_singleton.1 h9]; exact List.mem_of_getElem? (i := 1) rfl) rfl) hp (oneP_valid h09 hv6) rfl (by show p.next.length * 1 ≤ 4096; omega))
 refine TO.l rfl (l_call ent34 (CallT.op hk16) rfl ?_)
 clear hk16
 rintro vr O' ⟨N, rfl, bb, rfl, hbb, rfl⟩
 refine TO.q (q_not rfl) (TO.qa rfl (TO.nl (T.ret (Res.drop ?_))))
 refine Res.one (.bool (!bb)) Tryd.results31 rfl ?_
 exact ⟨[], Sub.of (List.nil_sublist _), !bb, rfl, by rw [← wit_iff hp, ← hbb]; cases bb <;> simp, rfl⟩
end Go.Proofs.YtnikhiohindggaaDoor


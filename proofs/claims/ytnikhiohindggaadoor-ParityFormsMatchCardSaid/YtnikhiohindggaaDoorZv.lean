/- Contracts of functions of the program (Zc, Zf, Yw, Zd, Zg, Zv): what each call answers and that it leaves memory as it was. Conditions: those each theorem names. -/
import Derived.Test.YtnikhiohindggaaDoorCoreL
import Derived.Test.YtnikhiohindggaaDoorZb
import Derived.Test.YtnikhiohindggaaDoorYm
import Derived.Test.YtnikhiohindggaaDoorTar
set_option linter.unusedSectionVars false
set_option linter.unusedSimpArgs false
set_option linter.unusedVariables false
set_option linter.unnecessarySimpa false
set_option maxHeartbeats 8000000
set_option maxRecDepth 20000
namespace Go.Proofs.YtnikhiohindggaaDoor
open Go.Lx Go.RowKit _root_.Go.Proofs.Tryd
theorem componentsC (base : World) [Tab Tryd.prog base] (p : Par) (k : DK) (h : AtP base p k) (hv : Val p.d) (hn : p.next.length ≤ 4096) (hw : letN p.d ≤ 64) (hEl : ∀ u w, DE p.d u w → w < p.next.length) (OO : List Lx.Item) (al : Nat → Bool) (fal : Value) (hfc : fal.cells = #[fal]) (hal : ∀ u, u < p.next.length → CallV Tryd.prog base fal [vI ((u : Nat) : Int)] OO (fun v O' => v = .bool (decide (al u = true)) ∧ O' = OO)) (gx : Nat) :
  CallT Tryd.prog base 53 [(.agg #[vI ((p.next.length : Nat) : Int), (.func (.func 77) #[] #[(.pointer (aD gx))])]), fal] ([oI gx 25 (pC p k)] ++ OO) (fun v O' => ∃ all b c ps, v = .slice b (List.length ps) c ∧ O' = [rowI b c 23 1 (vals ps), oI gx 25 (pC p k)] ++ (OO ++ itms 3 ps) ∧ nums ps = List.map intY all ∧ PartsOk p.next.length (DE p.d) (fun u => al u = true) all) := by
 refine CallT.enter func53 rfl ntmps53 rfl ?_
 refine T.s (T.rg (TO.l rfl (l_box (v := (.agg #[vI ((p.next.length : Nat) : Int), (.func (.func 77) #[] #[(.pointer (aD gx))])])) (cs := [vI ((p.next.length : Nat) : Int), (.func (.func 77) #[] #[(.pointer (aD gx))])]) rfl rfl (fun bx1 => ?_))))
 refine TO.l rfl (l_box (v := fal) (cs := [fal]) rfl hfc (fun bx2 => ?_))
 refine TO.l rfl (l_alloc inf22 rfl (fun bx3 => ?_))
 refine TO.nl ?_
 refine T.cut (fun ρ O => ∃ (zA zB zC zD : Nat), O = ([oI zC 23 [(.slice (aD zA) p.next.length p.next.length)], oI zD 23 [(.slice (aD zB) p.next.length p.next.length)], rowI (aD zA) p.next.length 3 1 (List.replicate p.next.length (vI 0)), rowI (aD zB) p.next.length 3 1 (List.replicate p.next.length (vI 0)), oI bx3 22 [nS], oI bx2 69 [fal], oI bx1 76 [vI ((p.next.length : Nat) : Int), (.func (.func 77) #[] #[(.pointer (aD gx))])], oI gx 25 (pC p k)] ++ OO) ∧ Heads [(0, (.agg #[vI ((p.next.length : Nat) : Int), (.func (.func 77) #[] #[(.pointer (aD gx))])])), (1, fal), (2, (.pointer (aD bx1))), (3, (.pointer (aD bx2))), (4, (.pointer (aD bx3))), (5, (.pointer (aD zC))), (6, (.pointer (aD zD)))] ρ) ?_ ?_
 ·refine T.tree [oI bx1 76 [vI ((p.next.length : Nat) : Int), (.func (.func 77) #[] #[(.pointer (aD gx))])]] 10 mixed rfl (by exact Sub.d (.d (.k .z))) (fun _ _ _ h => h) ?_
  refine RO.quietT 0 rfl (by kernel_rfl) (q_fa underlying76 rfl inf3 rfl rfl) ?_
  refine RO.quietT 1 rfl (by kernel_rfl) (q_lb 0 underlying3 rfl rfl rfl rfl) ?_
  refine RO.quietT 3 rfl (by kernel_rfl) (q_fa underlying76 rfl inf3 rfl rfl) ?_
  refine RO.quietT 4 rfl (by kernel_rfl) (q_lb 0 underlying3 rfl rfl rfl rfl) ?_
  refine RO.fork [2, 5, 6, 7] (by kernel_rfl) rfl ⟨⟨_, rfl, rfl, l_makeSlice (m := p.next.length) underlying23 inf3 rfl rfl (by omega) (by omega) (fun zA => ⟨by exact Sub.d (.d (.d (.k .z))), ?_⟩)⟩, ⟨_, rfl, rfl, l_makeSlice (m := p.next.length) underlying23 inf3 rfl rfl (by omega) (by omega) (fun zB => ⟨by exact Sub.d (.d (.d (.k .z))), ?_⟩)⟩, ⟨_, rfl, rfl, l_alloc inf23 rfl (fun zC => ⟨by exact Sub.d (.d (.d (.k .z))), ?_⟩)⟩, ⟨_, rfl, rfl, l_alloc inf23 rfl (fun zD => ⟨by exact Sub.d (.d (.d (.k .z))), ?_⟩)⟩, trivial⟩
  ·refine RO.fork [5, 6, 7] (by kernel_rfl) rfl ⟨⟨_, rfl, rfl, l_makeSlice (m := p.next.length) underlying23 inf3 rfl rfl (by omega) (by omega) (fun zB => ⟨by exact Sub.d (.d (.d (.d (.k .z)))), ?_⟩)⟩, ⟨_, rfl, rfl, l_alloc inf23 rfl (fun zC => ⟨by exact Sub.d (.d (.d (.d (.k .z)))), ?_⟩)⟩, ⟨_, rfl, rfl, l_alloc inf23 rfl (fun zD => ⟨by exact Sub.d (.d (.d (.d (.k .z)))), ?_⟩)⟩, trivial⟩
   ·refine RO.fork [6, 7] (by kernel_rfl) rfl ⟨⟨_, rfl, rfl, l_alloc inf23 rfl (fun zC => ⟨by exact Sub.d (.d (.d (.d (.d (.k .z))))), ?_⟩)⟩, ⟨_, rfl, rfl, l_alloc inf23 rfl (fun zD => ⟨by exact Sub.d (.d (.d (.d (.d (.k .z))))), ?_⟩)⟩, trivial⟩
    ·refine RO.fork [7] (by kernel_rfl) rfl ⟨⟨_, rfl, rfl, l_alloc inf23 rfl (fun zD => ⟨by exact Sub.d (.d (.d (.d (.d (.d (.k .z)))))), ?_⟩)⟩, trivial⟩
     refine RO.fork [8] (by kernel_rfl) rfl ⟨⟨_, rfl, rfl, l_sb (v := (.slice (aD zA) p.next.length p.next.length)) (vs := [(.slice (aD zA) p.next.length p.next.length)]) 1 inf23 rfl rfl rfl rfl rfl rfl (by simp [putL]) ⟨by exact Sub.d (.d (.d (.d (.d (.d (.k .z)))))), ?_⟩⟩, trivial⟩
     refine RO.fork [9] (by kernel_rfl) rfl ⟨⟨_, rfl, rfl, l_sb (v := (.slice (aD zB) p.next.length p.next.length)) (vs := [(.slice (aD zB) p.next.length p.next.length)]) 0 inf23 rfl rfl rfl rfl rfl rfl (by simp [putL]) ⟨by exact Sub.d (.d (.d (.d (.d (.d (.k .z)))))), ?_⟩⟩, trivial⟩
     exact RO.fin (by kernel_rfl) ⟨zA, zB, zC, zD, rfl, (.of rfl)⟩ (by exact Sub.pull [oI zD 23 [(.slice (aD zB) p.next.length p.next.length)]] _ (.k (.pull [rowI (aD zB) p.next.length 3 1 (List.replicate p.next.length (vI 0))] _ (.k (.k (.k (.k (.k .rf))))))))
    refine RO.fork [6] (by kernel_rfl) rfl ⟨⟨_, rfl, rfl, l_alloc inf23 rfl (fun zC => ⟨by exact Sub.d (.d (.d (.d (.d (.d (.k .z)))))), ?_⟩)⟩, trivial⟩
    refine RO.fork [8] (by kernel_rfl) rfl ⟨⟨_, rfl, rfl, l_sb (v := (.slice (aD zA) p.next.length p.next.length)) (vs := [(.slice (aD zA) p.next.length p.next.length)]) 0 inf23 rfl rfl rfl rfl rfl rfl (by simp [putL]) ⟨by exact Sub.d (.d (.d (.d (.d (.d (.k .z)))))), ?_⟩⟩, trivial⟩
    refine RO.fork [9] (by kernel_rfl) rfl ⟨⟨_, rfl, rfl, l_sb (v := (.slice (aD zB) p.next.length p.next.length)) (vs := [(.slice (aD zB) p.next.length p.next.length)]) 1 inf23 rfl rfl rfl rfl rfl rfl (by simp [putL]) ⟨by exact Sub.d (.d (.d (.d (.d (.d (.k .z)))))), ?_⟩⟩, trivial⟩
    exact RO.fin (by kernel_rfl) ⟨zA, zB, zC, zD, rfl, (.of rfl)⟩ (by exact Sub.k (.k (.pull [rowI (aD zB) p.next.length 3 1 (List.replicate p.next.length (vI 0))] _ (.k (.k (.k (.k (.k .rf))))))))
   ·refine RO.fork [5, 7] (by kernel_rfl) rfl ⟨⟨_, rfl, rfl, l_makeSlice (m := p.next.length) underlying23 inf3 rfl rfl (by omega) (by omega) (fun zB => ⟨by exact Sub.d (.d (.d (.d (.d (.k .z))))), ?_⟩)⟩, ⟨_, rfl, rfl, l_alloc inf23 rfl (fun zD => ⟨by exact Sub.d (.d (.d (.d (.d (.k .z))))), ?_⟩)⟩, trivial⟩
    ·refine RO.fork [7] (by kernel_rfl) rfl ⟨⟨_, rfl, rfl, l_alloc inf23 rfl (fun zD => ⟨by exact Sub.d (.d (.d (.d (.d (.d (.k .z)))))), ?_⟩)⟩, trivial⟩
     refine RO.fork [8] (by kernel_rfl) rfl ⟨⟨_, rfl, rfl, l_sb (v := (.slice (aD zA) p.next.length p.next.length)) (vs := [(.slice (aD zA) p.next.length p.next.length)]) 2 inf23 rfl rfl rfl rfl rfl rfl (by simp [putL]) ⟨by exact Sub.d (.d (.d (.d (.d (.d (.k .z)))))), ?_⟩⟩, trivial⟩
     refine RO.fork [9] (by kernel_rfl) rfl ⟨⟨_, rfl, rfl, l_sb (v := (.slice (aD zB) p.next.length p.next.length)) (vs := [(.slice (aD zB) p.next.length p.next.length)]) 0 inf23 rfl rfl rfl rfl rfl rfl (by simp [putL]) ⟨by exact Sub.d (.d (.d (.d (.d (.d (.k .z)))))), ?_⟩⟩, trivial⟩
     exact RO.fin (by kernel_rfl) ⟨zA, zB, zC, zD, rfl, (.of rfl)⟩ (by exact Sub.pull [oI zD 23 [(.slice (aD zB) p.next.length p.next.length)], rowI (aD zB) p.next.length 3 1 (List.replicate p.next.length (vI 0))] _ (.k (.pull [rowI (aD zB) p.next.length 3 1 (List.replicate p.next.length (vI 0))] _ (.k (.k (.k (.k (.k .rf))))))))
    refine RO.fork [5, 8] (by kernel_rfl) rfl ⟨⟨_, rfl, rfl, l_makeSlice (m := p.next.length) underlying23 inf3 rfl rfl (by omega) (by omega) (fun zB => ⟨by exact Sub.d (.d (.d (.d (.d (.d (.k .z)))))), ?_⟩)⟩, ⟨_, rfl, rfl, l_sb (v := (.slice (aD zA) p.next.length p.next.length)) (vs := [(.slice (aD zA) p.next.length p.next.length)]) 1 inf23 rfl rfl rfl rfl rfl rfl (by simp [putL]) ⟨by exact Sub.d (.d (.d (.d (.d (.k .z))))), ?_⟩⟩, trivial⟩
    ·refine RO.fork [8] (by kernel_rfl) rfl ⟨⟨_, rfl, rfl, l_sb (v := (.slice (aD zA) p.next.length p.next.length)) (vs := [(.slice (aD zA) p.next.length p.next.length)]) 2 inf23 rfl rfl rfl rfl rfl rfl (by simp [putL]) ⟨by exact Sub.d (.d (.d (.d (.d (.d (.k .z)))))), ?_⟩⟩, trivial⟩
     refine RO.fork [9] (by kernel_rfl) rfl ⟨⟨_, rfl, rfl, l_sb (v := (.slice (aD zB) p.next.length p.next.length)) (vs := [(.slice (aD zB) p.next.length p.next.length)]) 1 inf23 rfl rfl rfl rfl rfl rfl (by simp [putL]) ⟨by exact Sub.d (.d (.d (.d (.d (.d (.k .z)))))), ?_⟩⟩, trivial⟩
     exact RO.fin (by kernel_rfl) ⟨zA, zB, zC, zD, rfl, (.of rfl)⟩ (by exact Sub.pull [rowI (aD zB) p.next.length 3 1 (List.replicate p.next.length (vI 0)), oI zD 23 [(.slice (aD zB) p.next.length p.next.length)]] _ (.pull [rowI (aD zB) p.next.length 3 1 (List.replicate p.next.length (vI 0))] _ (.pull [rowI (aD zB) p.next.length 3 1 (List.replicate p.next.length (vI 0))] _ (.k (.k (.k (.k (.k .rf))))))))
    refine RO.fork [5] (by kernel_rfl) rfl ⟨⟨_, rfl, rfl, l_makeSlice (m := p.next.length) underlying23 inf3 rfl rfl (by omega) (by omega) (fun zB => ⟨by exact Sub.d (.d (.d (.d (.d (.d (.k .z)))))), ?_⟩)⟩, trivial⟩
    refine RO.fork [9] (by kernel_rfl) rfl ⟨⟨_, rfl, rfl, l_sb (v := (.slice (aD zB) p.next.length p.next.length)) (vs := [(.slice (aD zB) p.next.length p.next.length)]) 1 inf23 rfl rfl rfl rfl rfl rfl (by simp [putL]) ⟨by exact Sub.d (.d (.d (.d (.d (.d (.k .z)))))), ?_⟩⟩, trivial⟩
    exact RO.fin (by kernel_rfl) ⟨zA, zB, zC, zD, rfl, (.of rfl)⟩ (by exact Sub.pull [rowI (aD zB) p.next.length 3 1 (List.replicate p.next.length (vI 0)), oI zD 23 [(.slice (aD zB) p.next.length p.next.length)]] _ (.pull [rowI (aD zB) p.next.length 3 1 (List.replicate p.next.length (vI 0))] _ (.pull [rowI (aD zB) p.next.length 3 1 (List.replicate p.next.length (vI 0))] _ (.k (.k (.k (.k (.k .rf))))))))
   refine RO.fork [5, 6] (by kernel_rfl) rfl ⟨⟨_, rfl, rfl, l_makeSlice (m := p.next.length) underlying23 inf3 rfl rfl (by omega) (by omega) (fun zB => ⟨by exact Sub.d (.d (.d (.d (.d (.k .z))))), ?_⟩)⟩, ⟨_, rfl, rfl, l_alloc inf23 rfl (fun zC => ⟨by exact Sub.d (.d (.d (.d (.d (.k .z))))), ?_⟩)⟩, trivial⟩
   ·refine RO.fork [6] (by kernel_rfl) rfl ⟨⟨_, rfl, rfl, l_alloc inf23 rfl (fun zC => ⟨by exact Sub.d (.d (.d (.d (.d (.d (.k .z)))))), ?_⟩)⟩, trivial⟩
    refine RO.fork [8] (by kernel_rfl) rfl ⟨⟨_, rfl, rfl, l_sb (v := (.slice (aD zA) p.next.length p.next.length)) (vs := [(.slice (aD zA) p.next.length p.next.length)]) 0 inf23 rfl rfl rfl rfl rfl rfl (by simp [putL]) ⟨by exact Sub.d (.d (.d (.d (.d (.d (.k .z)))))), ?_⟩⟩, trivial⟩
    refine RO.fork [9] (by kernel_rfl) rfl ⟨⟨_, rfl, rfl, l_sb (v := (.slice (aD zB) p.next.length p.next.length)) (vs := [(.slice (aD zB) p.next.length p.next.length)]) 2 inf23 rfl rfl rfl rfl rfl rfl (by simp [putL]) ⟨by exact Sub.d (.d (.d (.d (.d (.d (.k .z)))))), ?_⟩⟩, trivial⟩
    exact RO.fin (by kernel_rfl) ⟨zA, zB, zC, zD, rfl, (.of rfl)⟩ (by exact Sub.k (.pull [rowI (aD zB) p.next.length 3 1 (List.replicate p.next.length (vI 0))] _ (.pull [rowI (aD zB) p.next.length 3 1 (List.replicate p.next.length (vI 0))] _ (.k (.k (.k (.k (.k .rf))))))))
   refine RO.fork [5, 8] (by kernel_rfl) rfl ⟨⟨_, rfl, rfl, l_makeSlice (m := p.next.length) underlying23 inf3 rfl rfl (by omega) (by omega) (fun zB => ⟨by exact Sub.d (.d (.d (.d (.d (.d (.k .z)))))), ?_⟩)⟩, ⟨_, rfl, rfl, l_sb (v := (.slice (aD zA) p.next.length p.next.length)) (vs := [(.slice (aD zA) p.next.length p.next.length)]) 0 inf23 rfl rfl rfl rfl rfl rfl (by simp [putL]) ⟨by exact Sub.d (.d (.d (.d (.d (.k .z))))), ?_⟩⟩, trivial⟩
   ·refine RO.fork [8] (by kernel_rfl) rfl ⟨⟨_, rfl, rfl, l_sb (v := (.slice (aD zA) p.next.length p.next.length)) (vs := [(.slice (aD zA) p.next.length p.next.length)]) 1 inf23 rfl rfl rfl rfl rfl rfl (by simp [putL]) ⟨by exact Sub.d (.d (.d (.d (.d (.d (.k .z)))))), ?_⟩⟩, trivial⟩
    refine RO.fork [9] (by kernel_rfl) rfl ⟨⟨_, rfl, rfl, l_sb (v := (.slice (aD zB) p.next.length p.next.length)) (vs := [(.slice (aD zB) p.next.length p.next.length)]) 2 inf23 rfl rfl rfl rfl rfl rfl (by simp [putL]) ⟨by exact Sub.d (.d (.d (.d (.d (.d (.k .z)))))), ?_⟩⟩, trivial⟩
    exact RO.fin (by kernel_rfl) ⟨zA, zB, zC, zD, rfl, (.of rfl)⟩ (by exact Sub.pull [rowI (aD zB) p.next.length 3 1 (List.replicate p.next.length (vI 0))] _ (.pull [rowI (aD zB) p.next.length 3 1 (List.replicate p.next.length (vI 0))] _ (.pull [rowI (aD zB) p.next.length 3 1 (List.replicate p.next.length (vI 0))] _ (.k (.k (.k (.k (.k .rf))))))))
   refine RO.fork [5] (by kernel_rfl) rfl ⟨⟨_, rfl, rfl, l_makeSlice (m := p.next.length) underlying23 inf3 rfl rfl (by omega) (by omega) (fun zB => ⟨by exact Sub.d (.d (.d (.d (.d (.d (.k .z)))))), ?_⟩)⟩, trivial⟩
   refine RO.fork [9] (by kernel_rfl) rfl ⟨⟨_, rfl, rfl, l_sb (v := (.slice (aD zB) p.next.length p.next.length)) (vs := [(.slice (aD zB) p.next.length p.next.length)]) 2 inf23 rfl rfl rfl rfl rfl rfl (by simp [putL]) ⟨by exact Sub.d (.d (.d (.d (.d (.d (.k .z)))))), ?_⟩⟩, trivial⟩
   exact RO.fin (by kernel_rfl) ⟨zA, zB, zC, zD, rfl, (.of rfl)⟩ (by exact Sub.pull [rowI (aD zB) p.next.length 3 1 (List.replicate p.next.length (vI 0))] _ (.pull [rowI (aD zB) p.next.length 3 1 (List.replicate p.next.length (vI 0))] _ (.pull [rowI (aD zB) p.next.length 3 1 (List.replicate p.next.length (vI 0))] _ (.k (.k (.k (.k (.k .rf))))))))
  ·refine RO.fork [2, 6, 7] (by kernel_rfl) rfl ⟨⟨_, rfl, rfl, l_makeSlice (m := p.next.length) underlying23 inf3 rfl rfl (by omega) (by omega) (fun zA => ⟨by exact Sub.d (.d (.d (.d (.k .z)))), ?_⟩)⟩, ⟨_, rfl, rfl, l_alloc inf23 rfl (fun zC => ⟨by exact Sub.d (.d (.d (.d (.k .z)))), ?_⟩)⟩, ⟨_, rfl, rfl, l_alloc inf23 rfl (fun zD => ⟨by exact Sub.d (.d (.d (.d (.k .z)))), ?_⟩)⟩, trivial⟩
   ·refine RO.fork [6, 7] (by kernel_rfl) rfl ⟨⟨_, rfl, rfl, l_alloc inf23 rfl (fun zC => ⟨by exact Sub.d (.d (.d (.d (.d (.k .z))))), ?_⟩)⟩, ⟨_, rfl, rfl, l_alloc inf23 rfl (fun zD => ⟨by exact Sub.d (.d (.d (.d (.d (.k .z))))), ?_⟩)⟩, trivial⟩
    ·refine RO.fork [7] (by kernel_rfl) rfl ⟨⟨_, rfl, rfl, l_alloc inf23 rfl (fun zD => ⟨by exact Sub.d (.d (.d (.d (.d (.d (.k .z)))))), ?_⟩)⟩, trivial⟩
     refine RO.fork [8] (by kernel_rfl) rfl ⟨⟨_, rfl, rfl, l_sb (v := (.slice (aD zA) p.next.length p.next.length)) (vs := [(.slice (aD zA) p.next.length p.next.length)]) 1 inf23 rfl rfl rfl rfl rfl rfl (by simp [putL]) ⟨by exact Sub.d (.d (.d (.d (.d (.d (.k .z)))))), ?_⟩⟩, trivial⟩
     refine RO.fork [9] (by kernel_rfl) rfl ⟨⟨_, rfl, rfl, l_sb (v := (.slice (aD zB) p.next.length p.next.length)) (vs := [(.slice (aD zB) p.next.length p.next.length)]) 0 inf23 rfl rfl rfl rfl rfl rfl (by simp [putL]) ⟨by exact Sub.d (.d (.d (.d (.d (.d (.k .z)))))), ?_⟩⟩, trivial⟩
     exact RO.fin (by kernel_rfl) ⟨zA, zB, zC, zD, rfl, (.of rfl)⟩ (by exact Sub.pull [oI zD 23 [(.slice (aD zB) p.next.length p.next.length)]] _ (.k (.k (.k (.k (.k (.k (.k .rf))))))))
    refine RO.fork [6] (by kernel_rfl) rfl ⟨⟨_, rfl, rfl, l_alloc inf23 rfl (fun zC => ⟨by exact Sub.d (.d (.d (.d (.d (.d (.k .z)))))), ?_⟩)⟩, trivial⟩
    refine RO.fork [8] (by kernel_rfl) rfl ⟨⟨_, rfl, rfl, l_sb (v := (.slice (aD zA) p.next.length p.next.length)) (vs := [(.slice (aD zA) p.next.length p.next.length)]) 0 inf23 rfl rfl rfl rfl rfl rfl (by simp [putL]) ⟨by exact Sub.d (.d (.d (.d (.d (.d (.k .z)))))), ?_⟩⟩, trivial⟩
    refine RO.fork [9] (by kernel_rfl) rfl ⟨⟨_, rfl, rfl, l_sb (v := (.slice (aD zB) p.next.length p.next.length)) (vs := [(.slice (aD zB) p.next.length p.next.length)]) 1 inf23 rfl rfl rfl rfl rfl rfl (by simp [putL]) ⟨by exact Sub.d (.d (.d (.d (.d (.d (.k .z)))))), ?_⟩⟩, trivial⟩
    exact RO.fin (by kernel_rfl) ⟨zA, zB, zC, zD, rfl, (.of rfl)⟩ (by exact Sub.rf)
   ·refine RO.fork [2, 7] (by kernel_rfl) rfl ⟨⟨_, rfl, rfl, l_makeSlice (m := p.next.length) underlying23 inf3 rfl rfl (by omega) (by omega) (fun zA => ⟨by exact Sub.d (.d (.d (.d (.d (.k .z))))), ?_⟩)⟩, ⟨_, rfl, rfl, l_alloc inf23 rfl (fun zD => ⟨by exact Sub.d (.d (.d (.d (.d (.k .z))))), ?_⟩)⟩, trivial⟩
    ·refine RO.fork [7] (by kernel_rfl) rfl ⟨⟨_, rfl, rfl, l_alloc inf23 rfl (fun zD => ⟨by exact Sub.d (.d (.d (.d (.d (.d (.k .z)))))), ?_⟩)⟩, trivial⟩
     refine RO.fork [8] (by kernel_rfl) rfl ⟨⟨_, rfl, rfl, l_sb (v := (.slice (aD zA) p.next.length p.next.length)) (vs := [(.slice (aD zA) p.next.length p.next.length)]) 2 inf23 rfl rfl rfl rfl rfl rfl (by simp [putL]) ⟨by exact Sub.d (.d (.d (.d (.d (.d (.k .z)))))), ?_⟩⟩, trivial⟩
     refine RO.fork [9] (by kernel_rfl) rfl ⟨⟨_, rfl, rfl, l_sb (v := (.slice (aD zB) p.next.length p.next.length)) (vs := [(.slice (aD zB) p.next.length p.next.length)]) 0 inf23 rfl rfl rfl rfl rfl rfl (by simp [putL]) ⟨by exact Sub.d (.d (.d (.d (.d (.d (.k .z)))))), ?_⟩⟩, trivial⟩
     exact RO.fin (by kernel_rfl) ⟨zA, zB, zC, zD, rfl, (.of rfl)⟩ (by exact Sub.pull [oI zD 23 [(.slice (aD zB) p.next.length p.next.length)], rowI (aD zA) p.next.length 3 1 (List.replicate p.next.length (vI 0))] _ (.k (.k (.k (.k (.k (.k (.k .rf))))))))
    refine RO.fork [2] (by kernel_rfl) rfl ⟨⟨_, rfl, rfl, l_makeSlice (m := p.next.length) underlying23 inf3 rfl rfl (by omega) (by omega) (fun zA => ⟨by exact Sub.d (.d (.d (.d (.d (.d (.k .z)))))), ?_⟩)⟩, trivial⟩
    refine RO.fork [8] (by kernel_rfl) rfl ⟨⟨_, rfl, rfl, l_sb (v := (.slice (aD zA) p.next.length p.next.length)) (vs := [(.slice (aD zA) p.next.length p.next.length)]) 2 inf23 rfl rfl rfl rfl rfl rfl (by simp [putL]) ⟨by exact Sub.d (.d (.d (.d (.d (.d (.k .z)))))), ?_⟩⟩, trivial⟩
    refine RO.fork [9] (by kernel_rfl) rfl ⟨⟨_, rfl, rfl, l_sb (v := (.slice (aD zB) p.next.length p.next.length)) (vs := [(.slice (aD zB) p.next.length p.next.length)]) 1 inf23 rfl rfl rfl rfl rfl rfl (by simp [putL]) ⟨by exact Sub.d (.d (.d (.d (.d (.d (.k .z)))))), ?_⟩⟩, trivial⟩
    exact RO.fin (by kernel_rfl) ⟨zA, zB, zC, zD, rfl, (.of rfl)⟩ (by exact Sub.pull [rowI (aD zA) p.next.length 3 1 (List.replicate p.next.length (vI 0)), oI zD 23 [(.slice (aD zB) p.next.length p.next.length)]] _ (.pull [rowI (aD zA) p.next.length 3 1 (List.replicate p.next.length (vI 0))] _ (.k (.k (.k (.k (.k (.k .rf))))))))
   refine RO.fork [2, 6] (by kernel_rfl) rfl ⟨⟨_, rfl, rfl, l_makeSlice (m := p.next.length) underlying23 inf3 rfl rfl (by omega) (by omega) (fun zA => ⟨by exact Sub.d (.d (.d (.d (.d (.k .z))))), ?_⟩)⟩, ⟨_, rfl, rfl, l_alloc inf23 rfl (fun zC => ⟨by exact Sub.d (.d (.d (.d (.d (.k .z))))), ?_⟩)⟩, trivial⟩
   ·refine RO.fork [6] (by kernel_rfl) rfl ⟨⟨_, rfl, rfl, l_alloc inf23 rfl (fun zC => ⟨by exact Sub.d (.d (.d (.d (.d (.d (.k .z)))))), ?_⟩)⟩, trivial⟩
    refine RO.fork [8] (by kernel_rfl) rfl ⟨⟨_, rfl, rfl, l_sb (v := (.slice (aD zA) p.next.length p.next.length)) (vs := [(.slice (aD zA) p.next.length p.next.length)]) 0 inf23 rfl rfl rfl rfl rfl rfl (by simp [putL]) ⟨by exact Sub.d (.d (.d (.d (.d (.d (.k .z)))))), ?_⟩⟩, trivial⟩
    refine RO.fork [9] (by kernel_rfl) rfl ⟨⟨_, rfl, rfl, l_sb (v := (.slice (aD zB) p.next.length p.next.length)) (vs := [(.slice (aD zB) p.next.length p.next.length)]) 2 inf23 rfl rfl rfl rfl rfl rfl (by simp [putL]) ⟨by exact Sub.d (.d (.d (.d (.d (.d (.k .z)))))), ?_⟩⟩, trivial⟩
    exact RO.fin (by kernel_rfl) ⟨zA, zB, zC, zD, rfl, (.of rfl)⟩ (by exact Sub.k (.pull [rowI (aD zA) p.next.length 3 1 (List.replicate p.next.length (vI 0))] _ (.k (.k (.k (.k (.k (.k .rf))))))))
   refine RO.fork [2] (by kernel_rfl) rfl ⟨⟨_, rfl, rfl, l_makeSlice (m := p.next.length) underlying23 inf3 rfl rfl (by omega) (by omega) (fun zA => ⟨by exact Sub.d (.d (.d (.d (.d (.d (.k .z)))))), ?_⟩)⟩, trivial⟩
   refine RO.fork [8] (by kernel_rfl) rfl ⟨⟨_, rfl, rfl, l_sb (v := (.slice (aD zA) p.next.length p.next.length)) (vs := [(.slice (aD zA) p.next.length p.next.length)]) 1 inf23 rfl rfl rfl rfl rfl rfl (by simp [putL]) ⟨by exact Sub.d (.d (.d (.d (.d (.d (.k .z)))))), ?_⟩⟩, trivial⟩
   refine RO.fork [9] (by kernel_rfl) rfl ⟨⟨_, rfl, rfl, l_sb (v := (.slice (aD zB) p.next.length p.next.length)) (vs := [(.slice (aD zB) p.next.length p.next.length)]) 2 inf23 rfl rfl rfl rfl rfl rfl (by simp [putL]) ⟨by exact Sub.d (.d (.d (.d (.d (.d (.k .z)))))), ?_⟩⟩, trivial⟩
   exact RO.fin (by kernel_rfl) ⟨zA, zB, zC, zD, rfl, (.of rfl)⟩ (by exact Sub.pull [rowI (aD zA) p.next.length 3 1 (List.replicate p.next.length (vI 0))] _ (.pull [rowI (aD zA) p.next.length 3 1 (List.replicate p.next.length (vI 0))] _ (.k (.k (.k (.k (.k (.k .rf))))))))
  ·refine RO.fork [2, 5, 7] (by kernel_rfl) rfl ⟨⟨_, rfl, rfl, l_makeSlice (m := p.next.length) underlying23 inf3 rfl rfl (by omega) (by omega) (fun zA => ⟨by exact Sub.d (.d (.d (.d (.k .z)))), ?_⟩)⟩, ⟨_, rfl, rfl, l_makeSlice (m := p.next.length) underlying23 inf3 rfl rfl (by omega) (by omega) (fun zB => ⟨by exact Sub.d (.d (.d (.d (.k .z)))), ?_⟩)⟩, ⟨_, rfl, rfl, l_alloc inf23 rfl (fun zD => ⟨by exact Sub.d (.d (.d (.d (.k .z)))), ?_⟩)⟩, trivial⟩
   ·refine RO.fork [5, 7] (by kernel_rfl) rfl ⟨⟨_, rfl, rfl, l_makeSlice (m := p.next.length) underlying23 inf3 rfl rfl (by omega) (by omega) (fun zB => ⟨by exact Sub.d (.d (.d (.d (.d (.k .z))))), ?_⟩)⟩, ⟨_, rfl, rfl, l_alloc inf23 rfl (fun zD => ⟨by exact Sub.d (.d (.d (.d (.d (.k .z))))), ?_⟩)⟩, trivial⟩
    ·refine RO.fork [7] (by kernel_rfl) rfl ⟨⟨_, rfl, rfl, l_alloc inf23 rfl (fun zD => ⟨by exact Sub.d (.d (.d (.d (.d (.d (.k .z)))))), ?_⟩)⟩, trivial⟩
     refine RO.fork [8] (by kernel_rfl) rfl ⟨⟨_, rfl, rfl, l_sb (v := (.slice (aD zA) p.next.length p.next.length)) (vs := [(.slice (aD zA) p.next.length p.next.length)]) 3 inf23 rfl rfl rfl rfl rfl rfl (by simp [putL]) ⟨by exact Sub.d (.d (.d (.d (.d (.d (.k .z)))))), ?_⟩⟩, trivial⟩
     refine RO.fork [9] (by kernel_rfl) rfl ⟨⟨_, rfl, rfl, l_sb (v := (.slice (aD zB) p.next.length p.next.length)) (vs := [(.slice (aD zB) p.next.length p.next.length)]) 0 inf23 rfl rfl rfl rfl rfl rfl (by simp [putL]) ⟨by exact Sub.d (.d (.d (.d (.d (.d (.k .z)))))), ?_⟩⟩, trivial⟩
     exact RO.fin (by kernel_rfl) ⟨zA, zB, zC, zD, rfl, (.of rfl)⟩ (by exact Sub.pull [oI zD 23 [(.slice (aD zB) p.next.length p.next.length)], rowI (aD zB) p.next.length 3 1 (List.replicate p.next.length (vI 0)), rowI (aD zA) p.next.length 3 1 (List.replicate p.next.length (vI 0))] _ (.k (.pull [rowI (aD zB) p.next.length 3 1 (List.replicate p.next.length (vI 0))] _ (.k (.k (.k (.k (.k .rf))))))))
    refine RO.fork [5, 8] (by kernel_rfl) rfl ⟨⟨_, rfl, rfl, l_makeSlice (m := p.next.length) underlying23 inf3 rfl rfl (by omega) (by omega) (fun zB => ⟨by exact Sub.d (.d (.d (.d (.d (.d (.k .z)))))), ?_⟩)⟩, ⟨_, rfl, rfl, l_sb (v := (.slice (aD zA) p.next.length p.next.length)) (vs := [(.slice (aD zA) p.next.length p.next.length)]) 2 inf23 rfl rfl rfl rfl rfl rfl (by simp [putL]) ⟨by exact Sub.d (.d (.d (.d (.d (.k .z))))), ?_⟩⟩, trivial⟩
    ·refine RO.fork [8] (by kernel_rfl) rfl ⟨⟨_, rfl, rfl, l_sb (v := (.slice (aD zA) p.next.length p.next.length)) (vs := [(.slice (aD zA) p.next.length p.next.length)]) 3 inf23 rfl rfl rfl rfl rfl rfl (by simp [putL]) ⟨by exact Sub.d (.d (.d (.d (.d (.d (.k .z)))))), ?_⟩⟩, trivial⟩
     refine RO.fork [9] (by kernel_rfl) rfl ⟨⟨_, rfl, rfl, l_sb (v := (.slice (aD zB) p.next.length p.next.length)) (vs := [(.slice (aD zB) p.next.length p.next.length)]) 1 inf23 rfl rfl rfl rfl rfl rfl (by simp [putL]) ⟨by exact Sub.d (.d (.d (.d (.d (.d (.k .z)))))), ?_⟩⟩, trivial⟩
     exact RO.fin (by kernel_rfl) ⟨zA, zB, zC, zD, rfl, (.of rfl)⟩ (by exact Sub.pull [rowI (aD zB) p.next.length 3 1 (List.replicate p.next.length (vI 0)), oI zD 23 [(.slice (aD zB) p.next.length p.next.length)], rowI (aD zA) p.next.length 3 1 (List.replicate p.next.length (vI 0))] _ (.pull [rowI (aD zB) p.next.length 3 1 (List.replicate p.next.length (vI 0))] _ (.pull [rowI (aD zB) p.next.length 3 1 (List.replicate p.next.length (vI 0))] _ (.k (.k (.k (.k (.k .rf))))))))
    refine RO.fork [5] (by kernel_rfl) rfl ⟨⟨_, rfl, rfl, l_makeSlice (m := p.next.length) underlying23 inf3 rfl rfl (by omega) (by omega) (fun zB => ⟨by exact Sub.d (.d (.d (.d (.d (.d (.k .z)))))), ?_⟩)⟩, trivial⟩
    refine RO.fork [9] (by kernel_rfl) rfl ⟨⟨_, rfl, rfl, l_sb (v := (.slice (aD zB) p.next.length p.next.length)) (vs := [(.slice (aD zB) p.next.length p.next.length)]) 1 inf23 rfl rfl rfl rfl rfl rfl (by simp [putL]) ⟨by exact Sub.d (.d (.d (.d (.d (.d (.k .z)))))), ?_⟩⟩, trivial⟩
    exact RO.fin (by kernel_rfl) ⟨zA, zB, zC, zD, rfl, (.of rfl)⟩ (by exact Sub.pull [rowI (aD zB) p.next.length 3 1 (List.replicate p.next.length (vI 0)), oI zD 23 [(.slice (aD zB) p.next.length p.next.length)], rowI (aD zA) p.next.length 3 1 (List.replicate p.next.length (vI 0))] _ (.pull [rowI (aD zB) p.next.length 3 1 (List.replicate p.next.length (vI 0))] _ (.pull [rowI (aD zB) p.next.length 3 1 (List.replicate p.next.length (vI 0))] _ (.k (.k (.k (.k (.k .rf))))))))
   ·refine RO.fork [2, 7] (by kernel_rfl) rfl ⟨⟨_, rfl, rfl, l_makeSlice (m := p.next.length) underlying23 inf3 rfl rfl (by omega) (by omega) (fun zA => ⟨by exact Sub.d (.d (.d (.d (.d (.k .z))))), ?_⟩)⟩, ⟨_, rfl, rfl, l_alloc inf23 rfl (fun zD => ⟨by exact Sub.d (.d (.d (.d (.d (.k .z))))), ?_⟩)⟩, trivial⟩
    ·refine RO.fork [7] (by kernel_rfl) rfl ⟨⟨_, rfl, rfl, l_alloc inf23 rfl (fun zD => ⟨by exact Sub.d (.d (.d (.d (.d (.d (.k .z)))))), ?_⟩)⟩, trivial⟩
     refine RO.fork [8] (by kernel_rfl) rfl ⟨⟨_, rfl, rfl, l_sb (v := (.slice (aD zA) p.next.length p.next.length)) (vs := [(.slice (aD zA) p.next.length p.next.length)]) 3 inf23 rfl rfl rfl rfl rfl rfl (by simp [putL]) ⟨by exact Sub.d (.d (.d (.d (.d (.d (.k .z)))))), ?_⟩⟩, trivial⟩
     refine RO.fork [9] (by kernel_rfl) rfl ⟨⟨_, rfl, rfl, l_sb (v := (.slice (aD zB) p.next.length p.next.length)) (vs := [(.slice (aD zB) p.next.length p.next.length)]) 0 inf23 rfl rfl rfl rfl rfl rfl (by simp [putL]) ⟨by exact Sub.d (.d (.d (.d (.d (.d (.k .z)))))), ?_⟩⟩, trivial⟩
     exact RO.fin (by kernel_rfl) ⟨zA, zB, zC, zD, rfl, (.of rfl)⟩ (by exact Sub.pull [oI zD 23 [(.slice (aD zB) p.next.length p.next.length)], rowI (aD zA) p.next.length 3 1 (List.replicate p.next.length (vI 0)), rowI (aD zB) p.next.length 3 1 (List.replicate p.next.length (vI 0))] _ (.k (.k (.k (.k (.k (.k (.k .rf))))))))
    refine RO.fork [2] (by kernel_rfl) rfl ⟨⟨_, rfl, rfl, l_makeSlice (m := p.next.length) underlying23 inf3 rfl rfl (by omega) (by omega) (fun zA => ⟨by exact Sub.d (.d (.d (.d (.d (.d (.k .z)))))), ?_⟩)⟩, trivial⟩
    refine RO.fork [8] (by kernel_rfl) rfl ⟨⟨_, rfl, rfl, l_sb (v := (.slice (aD zA) p.next.length p.next.length)) (vs := [(.slice (aD zA) p.next.length p.next.length)]) 3 inf23 rfl rfl rfl rfl rfl rfl (by simp [putL]) ⟨by exact Sub.d (.d (.d (.d (.d (.d (.k .z)))))), ?_⟩⟩, trivial⟩
    refine RO.fork [9] (by kernel_rfl) rfl ⟨⟨_, rfl, rfl, l_sb (v := (.slice (aD zB) p.next.length p.next.length)) (vs := [(.slice (aD zB) p.next.length p.next.length)]) 1 inf23 rfl rfl rfl rfl rfl rfl (by simp [putL]) ⟨by exact Sub.d (.d (.d (.d (.d (.d (.k .z)))))), ?_⟩⟩, trivial⟩
    exact RO.fin (by kernel_rfl) ⟨zA, zB, zC, zD, rfl, (.of rfl)⟩ (by exact Sub.pull [rowI (aD zA) p.next.length 3 1 (List.replicate p.next.length (vI 0)), oI zD 23 [(.slice (aD zB) p.next.length p.next.length)], rowI (aD zB) p.next.length 3 1 (List.replicate p.next.length (vI 0))] _ (.pull [rowI (aD zA) p.next.length 3 1 (List.replicate p.next.length (vI 0))] _ (.k (.k (.k (.k (.k (.k .rf))))))))
   refine RO.fork [2, 5] (by kernel_rfl) rfl ⟨⟨_, rfl, rfl, l_makeSlice (m := p.next.length) underlying23 inf3 rfl rfl (by omega) (by omega) (fun zA => ⟨by exact Sub.d (.d (.d (.d (.d (.k .z))))), ?_⟩)⟩, ⟨_, rfl, rfl, l_makeSlice (m := p.next.length) underlying23 inf3 rfl rfl (by omega) (by omega) (fun zB => ⟨by exact Sub.d (.d (.d (.d (.d (.k .z))))), ?_⟩)⟩, trivial⟩
   ·refine RO.fork [5, 8] (by kernel_rfl) rfl ⟨⟨_, rfl, rfl, l_makeSlice (m := p.next.length) underlying23 inf3 rfl rfl (by omega) (by omega) (fun zB => ⟨by exact Sub.d (.d (.d (.d (.d (.d (.k .z)))))), ?_⟩)⟩, ⟨_, rfl, rfl, l_sb (v := (.slice (aD zA) p.next.length p.next.length)) (vs := [(.slice (aD zA) p.next.length p.next.length)]) 2 inf23 rfl rfl rfl rfl rfl rfl (by simp [putL]) ⟨by exact Sub.d (.d (.d (.d (.d (.k .z))))), ?_⟩⟩, trivial⟩
    ·refine RO.fork [8] (by kernel_rfl) rfl ⟨⟨_, rfl, rfl, l_sb (v := (.slice (aD zA) p.next.length p.next.length)) (vs := [(.slice (aD zA) p.next.length p.next.length)]) 3 inf23 rfl rfl rfl rfl rfl rfl (by simp [putL]) ⟨by exact Sub.d (.d (.d (.d (.d (.d (.k .z)))))), ?_⟩⟩, trivial⟩
     refine RO.fork [9] (by kernel_rfl) rfl ⟨⟨_, rfl, rfl, l_sb (v := (.slice (aD zB) p.next.length p.next.length)) (vs := [(.slice (aD zB) p.next.length p.next.length)]) 2 inf23 rfl rfl rfl rfl rfl rfl (by simp [putL]) ⟨by exact Sub.d (.d (.d (.d (.d (.d (.k .z)))))), ?_⟩⟩, trivial⟩
     exact RO.fin (by kernel_rfl) ⟨zA, zB, zC, zD, rfl, (.of rfl)⟩ (by exact Sub.pull [rowI (aD zB) p.next.length 3 1 (List.replicate p.next.length (vI 0)), rowI (aD zA) p.next.length 3 1 (List.replicate p.next.length (vI 0)), oI zD 23 [(.slice (aD zB) p.next.length p.next.length)]] _ (.pull [rowI (aD zB) p.next.length 3 1 (List.replicate p.next.length (vI 0)), rowI (aD zA) p.next.length 3 1 (List.replicate p.next.length (vI 0))] _ (.pull [rowI (aD zB) p.next.length 3 1 (List.replicate p.next.length (vI 0))] _ (.k (.k (.k (.k (.k .rf))))))))
    refine RO.fork [5] (by kernel_rfl) rfl ⟨⟨_, rfl, rfl, l_makeSlice (m := p.next.length) underlying23 inf3 rfl rfl (by omega) (by omega) (fun zB => ⟨by exact Sub.d (.d (.d (.d (.d (.d (.k .z)))))), ?_⟩)⟩, trivial⟩
    refine RO.fork [9] (by kernel_rfl) rfl ⟨⟨_, rfl, rfl, l_sb (v := (.slice (aD zB) p.next.length p.next.length)) (vs := [(.slice (aD zB) p.next.length p.next.length)]) 2 inf23 rfl rfl rfl rfl rfl rfl (by simp [putL]) ⟨by exact Sub.d (.d (.d (.d (.d (.d (.k .z)))))), ?_⟩⟩, trivial⟩
    exact RO.fin (by kernel_rfl) ⟨zA, zB, zC, zD, rfl, (.of rfl)⟩ (by exact Sub.pull [rowI (aD zB) p.next.length 3 1 (List.replicate p.next.length (vI 0)), rowI (aD zA) p.next.length 3 1 (List.replicate p.next.length (vI 0)), oI zD 23 [(.slice (aD zB) p.next.length p.next.length)]] _ (.pull [rowI (aD zB) p.next.length 3 1 (List.replicate p.next.length (vI 0)), rowI (aD zA) p.next.length 3 1 (List.replicate p.next.length (vI 0))] _ (.pull [rowI (aD zB) p.next.length 3 1 (List.replicate p.next.length (vI 0))] _ (.k (.k (.k (.k (.k .rf))))))))
   refine RO.fork [2] (by kernel_rfl) rfl ⟨⟨_, rfl, rfl, l_makeSlice (m := p.next.length) underlying23 inf3 rfl rfl (by omega) (by omega) (fun zA => ⟨by exact Sub.d (.d (.d (.d (.d (.d (.k .z)))))), ?_⟩)⟩, trivial⟩
   refine RO.fork [8] (by kernel_rfl) rfl ⟨⟨_, rfl, rfl, l_sb (v := (.slice (aD zA) p.next.length p.next.length)) (vs := [(.slice (aD zA) p.next.length p.next.length)]) 3 inf23 rfl rfl rfl rfl rfl rfl (by simp [putL]) ⟨by exact Sub.d (.d (.d (.d (.d (.d (.k .z)))))), ?_⟩⟩, trivial⟩
   refine RO.fork [9] (by kernel_rfl) rfl ⟨⟨_, rfl, rfl, l_sb (v := (.slice (aD zB) p.next.length p.next.length)) (vs := [(.slice (aD zB) p.next.length p.next.length)]) 2 inf23 rfl rfl rfl rfl rfl rfl (by simp [putL]) ⟨by exact Sub.d (.d (.d (.d (.d (.d (.k .z)))))), ?_⟩⟩, trivial⟩
   exact RO.fin (by kernel_rfl) ⟨zA, zB, zC, zD, rfl, (.of rfl)⟩ (by exact Sub.pull [rowI (aD zA) p.next.length 3 1 (List.replicate p.next.length (vI 0)), rowI (aD zB) p.next.length 3 1 (List.replicate p.next.length (vI 0)), oI zD 23 [(.slice (aD zB) p.next.length p.next.length)]] _ (.pull [rowI (aD zA) p.next.length 3 1 (List.replicate p.next.length (vI 0)), rowI (aD zB) p.next.length 3 1 (List.replicate p.next.length (vI 0))] _ (.k (.k (.k (.k (.k (.k .rf))))))))
  refine RO.fork [2, 5, 6] (by kernel_rfl) rfl ⟨⟨_, rfl, rfl, l_makeSlice (m := p.next.length) underlying23 inf3 rfl rfl (by omega) (by omega) (fun zA => ⟨by exact Sub.d (.d (.d (.d (.k .z)))), ?_⟩)⟩, ⟨_, rfl, rfl, l_makeSlice (m := p.next.length) underlying23 inf3 rfl rfl (by omega) (by omega) (fun zB => ⟨by exact Sub.d (.d (.d (.d (.k .z)))), ?_⟩)⟩, ⟨_, rfl, rfl, l_alloc inf23 rfl (fun zC => ⟨by exact Sub.d (.d (.d (.d (.k .z)))), ?_⟩)⟩, trivial⟩
  ·refine RO.fork [5, 6] (by kernel_rfl) rfl ⟨⟨_, rfl, rfl, l_makeSlice (m := p.next.length) underlying23 inf3 rfl rfl (by omega) (by omega) (fun zB => ⟨by exact Sub.d (.d (.d (.d (.d (.k .z))))), ?_⟩)⟩, ⟨_, rfl, rfl, l_alloc inf23 rfl (fun zC => ⟨by exact Sub.d (.d (.d (.d (.d (.k .z))))), ?_⟩)⟩, trivial⟩
   ·refine RO.fork [6] (by kernel_rfl) rfl ⟨⟨_, rfl, rfl, l_alloc inf23 rfl (fun zC => ⟨by exact Sub.d (.d (.d (.d (.d (.d (.k .z)))))), ?_⟩)⟩, trivial⟩
    refine RO.fork [8] (by kernel_rfl) rfl ⟨⟨_, rfl, rfl, l_sb (v := (.slice (aD zA) p.next.length p.next.length)) (vs := [(.slice (aD zA) p.next.length p.next.length)]) 0 inf23 rfl rfl rfl rfl rfl rfl (by simp [putL]) ⟨by exact Sub.d (.d (.d (.d (.d (.d (.k .z)))))), ?_⟩⟩, trivial⟩
    refine RO.fork [9] (by kernel_rfl) rfl ⟨⟨_, rfl, rfl, l_sb (v := (.slice (aD zB) p.next.length p.next.length)) (vs := [(.slice (aD zB) p.next.length p.next.length)]) 3 inf23 rfl rfl rfl rfl rfl rfl (by simp [putL]) ⟨by exact Sub.d (.d (.d (.d (.d (.d (.k .z)))))), ?_⟩⟩, trivial⟩
    exact RO.fin (by kernel_rfl) ⟨zA, zB, zC, zD, rfl, (.of rfl)⟩ (by exact Sub.k (.pull [rowI (aD zB) p.next.length 3 1 (List.replicate p.next.length (vI 0)), rowI (aD zA) p.next.length 3 1 (List.replicate p.next.length (vI 0))] _ (.pull [rowI (aD zB) p.next.length 3 1 (List.replicate p.next.length (vI 0))] _ (.k (.k (.k (.k (.k .rf))))))))
   refine RO.fork [5, 8] (by kernel_rfl) rfl ⟨⟨_, rfl, rfl, l_makeSlice (m := p.next.length) underlying23 inf3 rfl rfl (by omega) (by omega) (fun zB => ⟨by exact Sub.d (.d (.d (.d (.d (.d (.k .z)))))), ?_⟩)⟩, ⟨_, rfl, rfl, l_sb (v := (.slice (aD zA) p.next.length p.next.length)) (vs := [(.slice (aD zA) p.next.length p.next.length)]) 0 inf23 rfl rfl rfl rfl rfl rfl (by simp [putL]) ⟨by exact Sub.d (.d (.d (.d (.d (.k .z))))), ?_⟩⟩, trivial⟩
   ·refine RO.fork [8] (by kernel_rfl) rfl ⟨⟨_, rfl, rfl, l_sb (v := (.slice (aD zA) p.next.length p.next.length)) (vs := [(.slice (aD zA) p.next.length p.next.length)]) 1 inf23 rfl rfl rfl rfl rfl rfl (by simp [putL]) ⟨by exact Sub.d (.d (.d (.d (.d (.d (.k .z)))))), ?_⟩⟩, trivial⟩
    refine RO.fork [9] (by kernel_rfl) rfl ⟨⟨_, rfl, rfl, l_sb (v := (.slice (aD zB) p.next.length p.next.length)) (vs := [(.slice (aD zB) p.next.length p.next.length)]) 3 inf23 rfl rfl rfl rfl rfl rfl (by simp [putL]) ⟨by exact Sub.d (.d (.d (.d (.d (.d (.k .z)))))), ?_⟩⟩, trivial⟩
    exact RO.fin (by kernel_rfl) ⟨zA, zB, zC, zD, rfl, (.of rfl)⟩ (by exact Sub.pull [rowI (aD zB) p.next.length 3 1 (List.replicate p.next.length (vI 0))] _ (.pull [rowI (aD zB) p.next.length 3 1 (List.replicate p.next.length (vI 0)), rowI (aD zA) p.next.length 3 1 (List.replicate p.next.length (vI 0))] _ (.pull [rowI (aD zB) p.next.length 3 1 (List.replicate p.next.length (vI 0))] _ (.k (.k (.k (.k (.k .rf))))))))
   refine RO.fork [5] (by kernel_rfl) rfl ⟨⟨_, rfl, rfl, l_makeSlice (m := p.next.length) underlying23 inf3 rfl rfl (by omega) (by omega) (fun zB => ⟨by exact Sub.d (.d (.d (.d (.d (.d (.k .z)))))), ?_⟩)⟩, trivial⟩
   refine RO.fork [9] (by kernel_rfl) rfl ⟨⟨_, rfl, rfl, l_sb (v := (.slice (aD zB) p.next.length p.next.length)) (vs := [(.slice (aD zB) p.next.length p.next.length)]) 3 inf23 rfl rfl rfl rfl rfl rfl (by simp [putL]) ⟨by exact Sub.d (.d (.d (.d (.d (.d (.k .z)))))), ?_⟩⟩, trivial⟩
   exact RO.fin (by kernel_rfl) ⟨zA, zB, zC, zD, rfl, (.of rfl)⟩ (by exact Sub.pull [rowI (aD zB) p.next.length 3 1 (List.replicate p.next.length (vI 0))] _ (.pull [rowI (aD zB) p.next.length 3 1 (List.replicate p.next.length (vI 0)), rowI (aD zA) p.next.length 3 1 (List.replicate p.next.length (vI 0))] _ (.pull [rowI (aD zB) p.next.length 3 1 (List.replicate p.next.length (vI 0))] _ (.k (.k (.k (.k (.k .rf))))))))
  ·refine RO.fork [2, 6] (by kernel_rfl) rfl ⟨⟨_, rfl, rfl, l_makeSlice (m := p.next.length) underlying23 inf3 rfl rfl (by omega) (by omega) (fun zA => ⟨by exact Sub.d (.d (.d (.d (.d (.k .z))))), ?_⟩)⟩, ⟨_, rfl, rfl, l_alloc inf23 rfl (fun zC => ⟨by exact Sub.d (.d (.d (.d (.d (.k .z))))), ?_⟩)⟩, trivial⟩
   ·refine RO.fork [6] (by kernel_rfl) rfl ⟨⟨_, rfl, rfl, l_alloc inf23 rfl (fun zC => ⟨by exact Sub.d (.d (.d (.d (.d (.d (.k .z)))))), ?_⟩)⟩, trivial⟩
    refine RO.fork [8] (by kernel_rfl) rfl ⟨⟨_, rfl, rfl, l_sb (v := (.slice (aD zA) p.next.length p.next.length)) (vs := [(.slice (aD zA) p.next.length p.next.length)]) 0 inf23 rfl rfl rfl rfl rfl rfl (by simp [putL]) ⟨by exact Sub.d (.d (.d (.d (.d (.d (.k .z)))))), ?_⟩⟩, trivial⟩
    refine RO.fork [9] (by kernel_rfl) rfl ⟨⟨_, rfl, rfl, l_sb (v := (.slice (aD zB) p.next.length p.next.length)) (vs := [(.slice (aD zB) p.next.length p.next.length)]) 3 inf23 rfl rfl rfl rfl rfl rfl (by simp [putL]) ⟨by exact Sub.d (.d (.d (.d (.d (.d (.k .z)))))), ?_⟩⟩, trivial⟩
    exact RO.fin (by kernel_rfl) ⟨zA, zB, zC, zD, rfl, (.of rfl)⟩ (by exact Sub.k (.pull [rowI (aD zA) p.next.length 3 1 (List.replicate p.next.length (vI 0)), rowI (aD zB) p.next.length 3 1 (List.replicate p.next.length (vI 0))] _ (.k (.k (.k (.k (.k (.k .rf))))))))
   refine RO.fork [2] (by kernel_rfl) rfl ⟨⟨_, rfl, rfl, l_makeSlice (m := p.next.length) underlying23 inf3 rfl rfl (by omega) (by omega) (fun zA => ⟨by exact Sub.d (.d (.d (.d (.d (.d (.k .z)))))), ?_⟩)⟩, trivial⟩
   refine RO.fork [8] (by kernel_rfl) rfl ⟨⟨_, rfl, rfl, l_sb (v := (.slice (aD zA) p.next.length p.next.length)) (vs := [(.slice (aD zA) p.next.length p.next.length)]) 1 inf23 rfl rfl rfl rfl rfl rfl (by simp [putL]) ⟨by exact Sub.d (.d (.d (.d (.d (.d (.k .z)))))), ?_⟩⟩, trivial⟩
   refine RO.fork [9] (by kernel_rfl) rfl ⟨⟨_, rfl, rfl, l_sb (v := (.slice (aD zB) p.next.length p.next.length)) (vs := [(.slice (aD zB) p.next.length p.next.length)]) 3 inf23 rfl rfl rfl rfl rfl rfl (by simp [putL]) ⟨by exact Sub.d (.d (.d (.d (.d (.d (.k .z)))))), ?_⟩⟩, trivial⟩
   exact RO.fin (by kernel_rfl) ⟨zA, zB, zC, zD, rfl, (.of rfl)⟩ (by exact Sub.pull [rowI (aD zA) p.next.length 3 1 (List.replicate p.next.length (vI 0))] _ (.pull [rowI (aD zA) p.next.length 3 1 (List.replicate p.next.length (vI 0)), rowI (aD zB) p.next.length 3 1 (List.replicate p.next.length (vI 0))] _ (.k (.k (.k (.k (.k (.k .rf))))))))
  refine RO.fork [2, 5] (by kernel_rfl) rfl ⟨⟨_, rfl, rfl, l_makeSlice (m := p.next.length) underlying23 inf3 rfl rfl (by omega) (by omega) (fun zA => ⟨by exact Sub.d (.d (.d (.d (.d (.k .z))))), ?_⟩)⟩, ⟨_, rfl, rfl, l_makeSlice (m := p.next.length) underlying23 inf3 rfl rfl (by omega) (by omega) (fun zB => ⟨by exact Sub.d (.d (.d (.d (.d (.k .z))))), ?_⟩)⟩, trivial⟩
  ·refine RO.fork [5, 8] (by kernel_rfl) rfl ⟨⟨_, rfl, rfl, l_makeSlice (m := p.next.length) underlying23 inf3 rfl rfl (by omega) (by omega) (fun zB => ⟨by exact Sub.d (.d (.d (.d (.d (.d (.k .z)))))), ?_⟩)⟩, ⟨_, rfl, rfl, l_sb (v := (.slice (aD zA) p.next.length p.next.length)) (vs := [(.slice (aD zA) p.next.length p.next.length)]) 1 inf23 rfl rfl rfl rfl rfl rfl (by simp [putL]) ⟨by exact Sub.d (.d (.d (.d (.d (.k .z))))), ?_⟩⟩, trivial⟩
   ·refine RO.fork [8] (by kernel_rfl) rfl ⟨⟨_, rfl, rfl, l_sb (v := (.slice (aD zA) p.next.length p.next.length)) (vs := [(.slice (aD zA) p.next.length p.next.length)]) 2 inf23 rfl rfl rfl rfl rfl rfl (by simp [putL]) ⟨by exact Sub.d (.d (.d (.d (.d (.d (.k .z)))))), ?_⟩⟩, trivial⟩
    refine RO.fork [9] (by kernel_rfl) rfl ⟨⟨_, rfl, rfl, l_sb (v := (.slice (aD zB) p.next.length p.next.length)) (vs := [(.slice (aD zB) p.next.length p.next.length)]) 3 inf23 rfl rfl rfl rfl rfl rfl (by simp [putL]) ⟨by exact Sub.d (.d (.d (.d (.d (.d (.k .z)))))), ?_⟩⟩, trivial⟩
    exact RO.fin (by kernel_rfl) ⟨zA, zB, zC, zD, rfl, (.of rfl)⟩ (by exact Sub.pull [rowI (aD zB) p.next.length 3 1 (List.replicate p.next.length (vI 0)), rowI (aD zA) p.next.length 3 1 (List.replicate p.next.length (vI 0))] _ (.pull [rowI (aD zB) p.next.length 3 1 (List.replicate p.next.length (vI 0)), rowI (aD zA) p.next.length 3 1 (List.replicate p.next.length (vI 0))] _ (.pull [rowI (aD zB) p.next.length 3 1 (List.replicate p.next.length (vI 0))] _ (.k (.k (.k (.k (.k .rf))))))))
   refine RO.fork [5] (by kernel_rfl) rfl ⟨⟨_, rfl, rfl, l_makeSlice (m := p.next.length) underlying23 inf3 rfl rfl (by omega) (by omega) (fun zB => ⟨by exact Sub.d (.d (.d (.d (.d (.d (.k .z)))))), ?_⟩)⟩, trivial⟩
   refine RO.fork [9] (by kernel_rfl) rfl ⟨⟨_, rfl, rfl, l_sb (v := (.slice (aD zB) p.next.length p.next.length)) (vs := [(.slice (aD zB) p.next.length p.next.length)]) 3 inf23 rfl rfl rfl rfl rfl rfl (by simp [putL]) ⟨by exact Sub.d (.d (.d (.d (.d (.d (.k .z)))))), ?_⟩⟩, trivial⟩
   exact RO.fin (by kernel_rfl) ⟨zA, zB, zC, zD, rfl, (.of rfl)⟩ (by exact Sub.pull [rowI (aD zB) p.next.length 3 1 (List.replicate p.next.length (vI 0)), rowI (aD zA) p.next.length 3 1 (List.replicate p.next.length (vI 0))] _ (.pull [rowI (aD zB) p.next.length 3 1 (List.replicate p.next.length (vI 0)), rowI (aD zA) p.next.length 3 1 (List.replicate p.next.length (vI 0))] _ (.pull [rowI (aD zB) p.next.length 3 1 (List.replicate p.next.length (vI 0))] _ (.k (.k (.k (.k (.k .rf))))))))
  refine RO.fork [2] (by kernel_rfl) rfl ⟨⟨_, rfl, rfl, l_makeSlice (m := p.next.length) underlying23 inf3 rfl rfl (by omega) (by omega) (fun zA => ⟨by exact Sub.d (.d (.d (.d (.d (.d (.k .z)))))), ?_⟩)⟩, trivial⟩
  refine RO.fork [8] (by kernel_rfl) rfl ⟨⟨_, rfl, rfl, l_sb (v := (.slice (aD zA) p.next.length p.next.length)) (vs := [(.slice (aD zA) p.next.length p.next.length)]) 2 inf23 rfl rfl rfl rfl rfl rfl (by simp [putL]) ⟨by exact Sub.d (.d (.d (.d (.d (.d (.k .z)))))), ?_⟩⟩, trivial⟩
  refine RO.fork [9] (by kernel_rfl) rfl ⟨⟨_, rfl, rfl, l_sb (v := (.slice (aD zB) p.next.length p.next.length)) (vs := [(.slice (aD zB) p.next.length p.next.length)]) 3 inf23 rfl rfl rfl rfl rfl rfl (by simp [putL]) ⟨by exact Sub.d (.d (.d (.d (.d (.d (.k .z)))))), ?_⟩⟩, trivial⟩
  exact RO.fin (by kernel_rfl) ⟨zA, zB, zC, zD, rfl, (.of rfl)⟩ (by exact Sub.pull [rowI (aD zA) p.next.length 3 1 (List.replicate p.next.length (vI 0)), rowI (aD zB) p.next.length 3 1 (List.replicate p.next.length (vI 0))] _ (.pull [rowI (aD zA) p.next.length 3 1 (List.replicate p.next.length (vI 0)), rowI (aD zB) p.next.length 3 1 (List.replicate p.next.length (vI 0))] _ (.k (.k (.k (.k (.k (.k .rf))))))))
 rintro ρ O ⟨zA, zB, zC, zD, rfl, hH⟩
 obtain ⟨ρ0, rfl⟩ := hH.elim
 clear hH
 refine T.s (T.rg (TO.q (q_fa underlying76 rfl inf3 rfl rfl) (TO.q (q_lb 6 underlying3 rfl rfl rfl rfl) (TO.l rfl (l_makeSlice (m := p.next.length) underlying81 inf4 rfl rfl (by omega) (by omega) (fun bx4 => ?_))))))
 refine TO.l rfl (l_alloc inf81 rfl (fun bx5 => ?_))
 refine TO.l rfl (l_sb (v := (.slice (aD bx4) p.next.length p.next.length)) (vs := [(.slice (aD bx4) p.next.length p.next.length)]) 0 inf81 rfl rfl rfl rfl rfl rfl (by simp [putL]) ?_)
 refine TO.nl (T.s (T.rg (TO.l rfl (l_alloc inf23 rfl (fun bx6 => ?_)))))
 refine TO.nl (T.s (T.rg (TO.l rfl (l_alloc inf3 rfl (fun bx7 => ?_)))))
 refine TO.l rfl (l_sb (v := vI 0) (vs := [(vI 0)]) 0 inf3 rfl rfl rfl rfl rfl rfl (by simp [putL]) ?_)
 refine TO.nl (T.s (T.rg (TO.l rfl (l_alloc inf103 rfl (fun bx8 => ?_)))))
 refine TO.nl (T.s (T.rg (TO.q (q_makeFunc) (TO.l rfl (l_sb (v := (.func (.func 79) #[] #[(.pointer (aD bx7)), (.pointer (aD zC)), (.pointer (aD zD)), (.pointer (aD bx6)), (.pointer (aD bx1)), (.pointer (aD bx2)), (.pointer (aD bx8)), (.pointer (aD bx5)), (.pointer (aD bx3))])) (vs := [(.func (.func 79) #[] #[(.pointer (aD bx7)), (.pointer (aD zC)), (.pointer (aD zD)), (.pointer (aD bx6)), (.pointer (aD bx1)), (.pointer (aD bx2)), (.pointer (aD bx8)), (.pointer (aD bx5)), (.pointer (aD bx3))])]) 0 inf103 rfl rfl rfl rfl rfl rfl (by simp [putL]) ?_)))))
 refine TO.nl (T.s (T.s (T.rg (TO.q (q_fa underlying76 rfl inf3 rfl rfl) (TO.q (q_lb 11 underlying3 rfl rfl rfl rfl) (TO.qm rfl (TO.nl (T.block (T.nilRow 3 1 (T.nilRow 23 1 ?_))))))))))
 refine T.sub (O' := [oI bx7 3 [(vI 0)], oI zC 23 [(.slice (aD zA) p.next.length p.next.length)], oI zD 23 [(.slice (aD zB) p.next.length p.next.length)], oI bx6 23 [nS], oI bx1 76 [vI ((p.next.length : Nat) : Int), (.func (.func 77) #[] #[(.pointer (aD gx))])], oI bx2 69 [fal], oI bx8 103 [(.func (.func 79) #[] #[(.pointer (aD bx7)), (.pointer (aD zC)), (.pointer (aD zD)), (.pointer (aD bx6)), (.pointer (aD bx1)), (.pointer (aD bx2)), (.pointer (aD bx8)), (.pointer (aD bx5)), (.pointer (aD bx3))])], oI bx5 81 [(.slice (aD bx4) p.next.length p.next.length)], oI bx3 22 [nS], oI gx 25 (pC p k), rowI (aD zA) p.next.length 3 1 (List.replicate p.next.length (vI 0)), rowI (aD zB) p.next.length 3 1 (List.replicate p.next.length (vI 0)), rowI none 0 3 1 [], rowI (aD bx4) p.next.length 4 1 (List.replicate p.next.length (.bool false)), rowI none 0 23 1 []] ++ OO) (by exact Sub.pull [rowI none 0 23 1 [], rowI none 0 3 1 [], oI bx8 103 [(.func (.func 79) #[] #[(.pointer (aD bx7)), (.pointer (aD zC)), (.pointer (aD zD)), (.pointer (aD bx6)), (.pointer (aD bx1)), (.pointer (aD bx2)), (.pointer (aD bx8)), (.pointer (aD bx5)), (.pointer (aD bx3))])]] _ (.pull [rowI none 0 23 1 [], rowI none 0 3 1 [], oI bx8 103 [(.func (.func 79) #[] #[(.pointer (aD bx7)), (.pointer (aD zC)), (.pointer (aD zD)), (.pointer (aD bx6)), (.pointer (aD bx1)), (.pointer (aD bx2)), (.pointer (aD bx8)), (.pointer (aD bx5)), (.pointer (aD bx3))])], oI bx6 23 [nS], oI bx5 81 [(.slice (aD bx4) p.next.length p.next.length)], rowI (aD bx4) p.next.length 4 1 (List.replicate p.next.length (.bool false))] _ (.pull [rowI none 0 23 1 [], rowI none 0 3 1 [], oI bx8 103 [(.func (.func 79) #[] #[(.pointer (aD bx7)), (.pointer (aD zC)), (.pointer (aD zD)), (.pointer (aD bx6)), (.pointer (aD bx1)), (.pointer (aD bx2)), (.pointer (aD bx8)), (.pointer (aD bx5)), (.pointer (aD bx3))])], oI bx6 23 [nS], oI bx5 81 [(.slice (aD bx4) p.next.length p.next.length)], rowI (aD bx4) p.next.length 4 1 (List.replicate p.next.length (.bool false))] _ (.pull [rowI none 0 23 1 [], rowI none 0 3 1 [], oI bx8 103 [(.func (.func 79) #[] #[(.pointer (aD bx7)), (.pointer (aD zC)), (.pointer (aD zD)), (.pointer (aD bx6)), (.pointer (aD bx1)), (.pointer (aD bx2)), (.pointer (aD bx8)), (.pointer (aD bx5)), (.pointer (aD bx3))])]] _ (.pull [rowI none 0 23 1 [], rowI none 0 3 1 [], oI bx8 103 [(.func (.func 79) #[] #[(.pointer (aD bx7)), (.pointer (aD zC)), (.pointer (aD zD)), (.pointer (aD bx6)), (.pointer (aD bx1)), (.pointer (aD bx2)), (.pointer (aD bx8)), (.pointer (aD bx5)), (.pointer (aD bx3))])], oI bx5 81 [(.slice (aD bx4) p.next.length p.next.length)], rowI (aD bx4) p.next.length 4 1 (List.replicate p.next.length (.bool false)), rowI (aD zA) p.next.length 3 1 (List.replicate p.next.length (vI 0)), rowI (aD zB) p.next.length 3 1 (List.replicate p.next.length (vI 0)), oI bx3 22 [nS], oI bx2 69 [fal]] _ (.pull [rowI none 0 23 1 [], rowI none 0 3 1 [], oI bx8 103 [(.func (.func 79) #[] #[(.pointer (aD bx7)), (.pointer (aD zC)), (.pointer (aD zD)), (.pointer (aD bx6)), (.pointer (aD bx1)), (.pointer (aD bx2)), (.pointer (aD bx8)), (.pointer (aD bx5)), (.pointer (aD bx3))])], oI bx5 81 [(.slice (aD bx4) p.next.length p.next.length)], rowI (aD bx4) p.next.length 4 1 (List.replicate p.next.length (.bool false)), rowI (aD zA) p.next.length 3 1 (List.replicate p.next.length (vI 0)), rowI (aD zB) p.next.length 3 1 (List.replicate p.next.length (vI 0)), oI bx3 22 [nS]] _ (.pull [rowI none 0 23 1 [], rowI none 0 3 1 []] _ (.pull [rowI none 0 23 1 [], rowI none 0 3 1 []] _ (.pull [rowI none 0 23 1 [], rowI none 0 3 1 [], rowI (aD bx4) p.next.length 4 1 (List.replicate p.next.length (.bool false)), rowI (aD zA) p.next.length 3 1 (List.replicate p.next.length (vI 0)), rowI (aD zB) p.next.length 3 1 (List.replicate p.next.length (vI 0))] _ (.pull [rowI none 0 23 1 [], rowI none 0 3 1 [], rowI (aD bx4) p.next.length 4 1 (List.replicate p.next.length (.bool false)), rowI (aD zA) p.next.length 3 1 (List.replicate p.next.length (vI 0)), rowI (aD zB) p.next.length 3 1 (List.replicate p.next.length (vI 0))] _ (.pull [rowI none 0 23 1 [], rowI none 0 3 1 [], rowI (aD bx4) p.next.length 4 1 (List.replicate p.next.length (.bool false))] _ (.pull [rowI none 0 23 1 [], rowI none 0 3 1 [], rowI (aD bx4) p.next.length 4 1 (List.replicate p.next.length (.bool false))] _ (.pull [rowI none 0 23 1 []] _ (.pull [rowI none 0 23 1 []] _ (.k .rf))))))))))))))) ?_
 refine T.loopS (fun (v : Nat) ρ O => ∃ (s : CL) (sb : Option Addr) (sc : Nat) (ab : Option Addr) (ac : Nat) (ps : List Rec), O = ([oI bx7 3 [(vI ((s.clk : Nat) : Int))], oI zC 23 [(.slice (aD zA) p.next.length p.next.length)], oI zD 23 [(.slice (aD zB) p.next.length p.next.length)], oI bx6 23 [(.slice sb s.stk.length sc)], oI bx1 76 [vI ((p.next.length : Nat) : Int), (.func (.func 77) #[] #[(.pointer (aD gx))])], oI bx2 69 [fal], oI bx8 103 [(.func (.func 79) #[] #[(.pointer (aD bx7)), (.pointer (aD zC)), (.pointer (aD zD)), (.pointer (aD bx6)), (.pointer (aD bx1)), (.pointer (aD bx2)), (.pointer (aD bx8)), (.pointer (aD bx5)), (.pointer (aD bx3))])], oI bx5 81 [(.slice (aD bx4) p.next.length p.next.length)], oI bx3 22 [(.slice ab ps.length ac)], oI gx 25 (pC p k), rowI (aD zA) p.next.length 3 1 (nats s.idx), rowI (aD zB) p.next.length 3 1 (nats s.low), rowI sb sc 3 1 (nats s.stk), rowI (aD bx4) p.next.length 4 1 (bools s.dn), rowI ab ac 23 1 (vals ps)] ++ (itms 3 ps ++ OO)) ∧ v ≤ p.next.length ∧ nums ps = s.all.map intY ∧ CLok p.d al s ∧ TInv p.next.length (EA p.d al) [] s.ts ∧ (∀ u, u < v → al u = true → s.idx.getD u 0 ≠ 0) ∧ Heads [(0, (.agg #[vI ((p.next.length : Nat) : Int), (.func (.func 77) #[] #[(.pointer (aD gx))])])), (1, fal), (2, (.pointer (aD bx1))), (3, (.pointer (aD bx2))), (4, (.pointer (aD bx3))), (5, (.pointer (aD zC))), (6, (.pointer (aD zD))), (7, (.pointer (aD bx5))), (8, (.pointer (aD bx6))), (9, (.pointer (aD bx7))), (10, (.pointer (aD bx8))), (23, vI ((p.next.length : Nat) : Int)), (24, vI ((v : Nat) : Int))] ρ) (fun v => p.next.length - v) 0 ?_ ?_
 ·refine ⟨{ idx := List.replicate p.d.next.length 0, low := List.replicate p.d.next.length 0, dn := List.replicate p.d.next.length false, stk := [], clk := 0, all := [], comp := fun _ => -1, cnt := 0 }, none, 0, none, 0, [], ?_, Nat.zero_le _, rfl, (CL.start p.d al).1, (CL.start p.d al).2, fun u hu => absurd hu (by omega), (.of rfl)⟩
  simp only [List.map_replicate, List.map_nil, List.length_nil]; rfl
 rintro v ρ O ⟨s, sb, sc, ab, ac, ps, rfl, hvl9, hps, hok, hinv, hvis, hH⟩
 obtain ⟨ρ0, rfl⟩ := hH.elim
 clear hH
 have hli : s.idx.length = p.next.length := hok.li
 refine T.s (T.rg (TO.q (q_lss rfl rfl) (TO.nl (T.s (T.condP rfl (fun hc => ?_) (fun hc => ?_))))))
 ·have hlt25 : v < p.next.length := by omega
  have hlv : v < p.next.length := by omega
  have hvi : v < s.idx.length := by omega
  refine T.skip (T.s (T.block (T.s (T.rg (TO.qm rfl (TO.qa rfl (TO.nl (T.s (T.rg (TO.q (q_lb 1 underlying23 rfl rfl rfl rfl) (TO.qm rfl (TO.q (q_ix (i := v) underlying23 inf3 rfl rfl (rowO (mG 10 rfl)) hlv (by rw [List.length_map]; exact hvi)) (TO.q (q_ld underlying3 rfl rfl (rowO (mG 10 rfl)) (nats_get hvi)) ?_)))))))))))))
  by_cases h31 : ((s.idx[v] : Nat) : Int) = 0
  ·refine TO.q (QT.toB (q_eql rfl rfl) (decide_eq_true h31)) ?_
   refine TO.qm rfl (TO.gq rfl rfl (q_lb 5 underlying69 rfl rfl rfl rfl) (TO.gq rfl rfl (q_move rfl) ?_))
   by_cases h35 : al v = true
   ·have hk35 := CallV.keepR ([oI bx7 3 [(vI ((s.clk : Nat) : Int))], oI zC 23 [(.slice (aD zA) p.next.length p.next.length)], oI zD 23 [(.slice (aD zB) p.next.length p.next.length)], oI bx6 23 [(.slice sb s.stk.length sc)], oI bx1 76 [vI ((p.next.length : Nat) : Int), (.func (.func 77) #[] #[(.pointer (aD gx))])], oI bx2 69 [fal], oI bx8 103 [(.func (.func 79) #[] #[(.pointer (aD bx7)), (.pointer (aD zC)), (.pointer (aD zD)), (.pointer (aD bx6)), (.pointer (aD bx1)), (.pointer (aD bx2)), (.pointer (aD bx8)), (.pointer (aD bx5)), (.pointer (aD bx3))])], oI bx5 81 [(.slice (aD bx4) p.next.length p.next.length)], oI bx3 22 [(.slice ab ps.length ac)], oI gx 25 (pC p k), rowI (aD zA) p.next.length 3 1 (nats s.idx), rowI (aD zB) p.next.length 3 1 (nats s.low), rowI sb sc 3 1 (nats s.stk), rowI (aD bx4) p.next.length 4 1 (bools s.dn), rowI ab ac 23 1 (vals ps)] ++ itms 3 ps) (hal v hlv)
    refine TO.gd rfl rfl rfl (l_callG hk35 rfl rfl ?_)
    clear hk35
    rintro vr O' ⟨rfl, rfl⟩
    rw [decide_eq_true h35]
    refine TO.q (q_pick1 rfl rfl) (TO.nl ?_)
    refine T.cond1 rfl ?_
    refine T.rg (TO.q (q_lb 6 underlying103 rfl rfl rfl rfl) (TO.qm rfl ?_))
    have hk39 := CallV.of_fn (first := []) (args := [vI ((v : Nat) : Int)]) (caps := [(.pointer (aD bx7)), (.pointer (aD zC)), (.pointer (aD zD)), (.pointer (aD bx6)), (.pointer (aD bx1)), (.pointer (aD bx2)), (.pointer (aD bx8)), (.pointer (aD bx5)), (.pointer (aD bx3))]) ent79 (visitF base p k h hv hn hw OO al bx7 zC zD bx6 bx1 bx2 bx8 bx5 bx3 gx (aD zA) (aD zB) (aD bx4) p.next.length p.next.length p.next.length fal hal _ s sb sc ab ac ps [] v rfl hps hok hinv hlv (by omega) h35 (fun g hg => (List.not_mem_nil hg).elim))
    refine TO.l rfl (l_callG hk39 rfl rfl ?_)
    clear hk39
    rintro vr O' ⟨s2, sb2, sc2, ab2, ac2, ps2, t2, rfl, hps2, hd⟩
    refine TO.nl (T.rg (TO.q (q_addN (a := v) (b := 1) rfl rfl (by omega)) (TO.qm rfl (TO.nl ?_))))
    exact ⟨v + 1, by omega, ([oI bx7 3 [(vI ((s2.clk : Nat) : Int))], oI zC 23 [(.slice (aD zA) p.next.length p.next.length)], oI zD 23 [(.slice (aD zB) p.next.length p.next.length)], oI bx6 23 [(.slice sb2 s2.stk.length sc2)], oI bx1 76 [vI ((p.next.length : Nat) : Int), (.func (.func 77) #[] #[(.pointer (aD gx))])], oI bx2 69 [fal], oI bx8 103 [(.func (.func 79) #[] #[(.pointer (aD bx7)), (.pointer (aD zC)), (.pointer (aD zD)), (.pointer (aD bx6)), (.pointer (aD bx1)), (.pointer (aD bx2)), (.pointer (aD bx8)), (.pointer (aD bx5)), (.pointer (aD bx3))])], oI bx5 81 [(.slice (aD bx4) p.next.length p.next.length)], oI bx3 22 [(.slice ab2 ps2.length ac2)], oI gx 25 (pC p k), rowI (aD zA) p.next.length 3 1 (nats s2.idx), rowI (aD zB) p.next.length 3 1 (nats s2.low), rowI sb2 sc2 3 1 (nats s2.stk), rowI (aD bx4) p.next.length 4 1 (bools s2.dn), rowI ab2 ac2 23 1 (vals ps2)] ++ (itms 3 ps2 ++ OO)), (by exact Sub.rf), s2, sb2, sc2, ab2, ac2, ps2, rfl, by omega, hps2, hd.ok, hd.inv, (fun u hu ha => (Nat.lt_succ_iff_lt_or_eq.1 hu).elim (fun h1 => by have h2 := hd.ext.idx u (hvis u h1 ha); show s2.ts.idx u ≠ 0; rw [h2]; exact hvis u h1 ha) (fun h1 => h1 ▸ hd.post.1)), (.of rfl)⟩
   have hk35 := CallV.keepR ([oI bx7 3 [(vI ((s.clk : Nat) : Int))], oI zC 23 [(.slice (aD zA) p.next.length p.next.length)], oI zD 23 [(.slice (aD zB) p.next.length p.next.length)], oI bx6 23 [(.slice sb s.stk.length sc)], oI bx1 76 [vI ((p.next.length : Nat) : Int), (.func (.func 77) #[] #[(.pointer (aD gx))])], oI bx2 69 [fal], oI bx8 103 [(.func (.func 79) #[] #[(.pointer (aD bx7)), (.pointer (aD zC)), (.pointer (aD zD)), (.pointer (aD bx6)), (.pointer (aD bx1)), (.pointer (aD bx2)), (.pointer (aD bx8)), (.pointer (aD bx5)), (.pointer (aD bx3))])], oI bx5 81 [(.slice (aD bx4) p.next.length p.next.length)], oI bx3 22 [(.slice ab ps.length ac)], oI gx 25 (pC p k), rowI (aD zA) p.next.length 3 1 (nats s.idx), rowI (aD zB) p.next.length 3 1 (nats s.low), rowI sb sc 3 1 (nats s.stk), rowI (aD bx4) p.next.length 4 1 (bools s.dn), rowI ab ac 23 1 (vals ps)] ++ itms 3 ps) (hal v hlv)
   refine TO.gd rfl rfl rfl (l_callG hk35 rfl rfl ?_)
   clear hk35
   rintro vr O' ⟨rfl, rfl⟩
   rw [decide_eq_false h35]
   refine TO.q (q_pick1 rfl rfl) (TO.nl (T.cond0 rfl (T.skip (T.rg (TO.q (q_addN (a := v) (b := 1) rfl rfl (by omega)) (TO.qm rfl (TO.nl ?_)))))))
   exact ⟨v + 1, by omega, ([oI bx7 3 [(vI ((s.clk : Nat) : Int))], oI zC 23 [(.slice (aD zA) p.next.length p.next.length)], oI zD 23 [(.slice (aD zB) p.next.length p.next.length)], oI bx6 23 [(.slice sb s.stk.length sc)], oI bx1 76 [vI ((p.next.length : Nat) : Int), (.func (.func 77) #[] #[(.pointer (aD gx))])], oI bx2 69 [fal], oI bx8 103 [(.func (.func 79) #[] #[(.pointer (aD bx7)), (.pointer (aD zC)), (.pointer (aD zD)), (.pointer (aD bx6)), (.pointer (aD bx1)), (.pointer (aD bx2)), (.pointer (aD bx8)), (.pointer (aD bx5)), (.pointer (aD bx3))])], oI bx5 81 [(.slice (aD bx4) p.next.length p.next.length)], oI bx3 22 [(.slice ab ps.length ac)], oI gx 25 (pC p k), rowI (aD zA) p.next.length 3 1 (nats s.idx), rowI (aD zB) p.next.length 3 1 (nats s.low), rowI sb sc 3 1 (nats s.stk), rowI (aD bx4) p.next.length 4 1 (bools s.dn), rowI ab ac 23 1 (vals ps)] ++ (itms 3 ps ++ OO)), (by exact Sub.rf), s, sb, sc, ab, ac, ps, rfl, by omega, hps, hok, hinv, (fun u hu ha => (Nat.lt_succ_iff_lt_or_eq.1 hu).elim (fun h1 => hvis u h1 ha) (fun h1 => by subst h1; first | (rw [gd (by omega)]; omega) | exact absurd ha h35)), (.of rfl)⟩
  refine TO.q (QT.toB (q_eql rfl rfl) (decide_eq_false h31)) (TO.qm rfl (TO.pd rfl rfl (TO.pd rfl rfl (TO.pd rfl rfl (TO.q (q_pick0 rfl rfl) (TO.nl (T.cond0 rfl (T.skip (T.rg ?_)))))))))
  refine TO.q (q_addN (a := v) (b := 1) rfl rfl (by omega)) (TO.qm rfl (TO.nl ?_))
  exact ⟨v + 1, by omega, ([oI bx7 3 [(vI ((s.clk : Nat) : Int))], oI zC 23 [(.slice (aD zA) p.next.length p.next.length)], oI zD 23 [(.slice (aD zB) p.next.length p.next.length)], oI bx6 23 [(.slice sb s.stk.length sc)], oI bx1 76 [vI ((p.next.length : Nat) : Int), (.func (.func 77) #[] #[(.pointer (aD gx))])], oI bx2 69 [fal], oI bx8 103 [(.func (.func 79) #[] #[(.pointer (aD bx7)), (.pointer (aD zC)), (.pointer (aD zD)), (.pointer (aD bx6)), (.pointer (aD bx1)), (.pointer (aD bx2)), (.pointer (aD bx8)), (.pointer (aD bx5)), (.pointer (aD bx3))])], oI bx5 81 [(.slice (aD bx4) p.next.length p.next.length)], oI bx3 22 [(.slice ab ps.length ac)], oI gx 25 (pC p k), rowI (aD zA) p.next.length 3 1 (nats s.idx), rowI (aD zB) p.next.length 3 1 (nats s.low), rowI sb sc 3 1 (nats s.stk), rowI (aD bx4) p.next.length 4 1 (bools s.dn), rowI ab ac 23 1 (vals ps)] ++ (itms 3 ps ++ OO)), (by exact Sub.rf), s, sb, sc, ab, ac, ps, rfl, by omega, hps, hok, hinv, (fun u hu ha => (Nat.lt_succ_iff_lt_or_eq.1 hu).elim (fun h1 => hvis u h1 ha) (fun h1 => by subst h1; first | (rw [gd (by omega)]; omega) | exact absurd ha h35)), (.of rfl)⟩
 have hge25 : ¬ v < p.next.length := by omega
 refine T.exit ?_
 refine T.s (T.rg (TO.q (q_lb 8 underlying22 rfl rfl rfl rfl) (TO.l rfl (l_sb (v := (.slice ab ps.length ac)) (vs := [(.slice ab ps.length ac)]) 8 inf22 rfl rfl rfl rfl rfl rfl (by simp [putL]) ?_))))
 refine TO.nl (T.ret (Res.drop ?_))
 refine Res.cell1n (i := 8) Tryd.results53 underlying22 rfl rfl rfl ?_
 have hpo := parts_ok (S := fun u => al u = true) (fun u w e => ⟨e.1, hEl u w e⟩) hinv (fun u hu ha => hvis u (by omega) ha) (fun u hu => hok.alw u hu) hok.prt
 exact ⟨[rowI ab ac 23 1 (vals ps), oI gx 25 (pC p k)] ++ (OO ++ itms 3 ps), Sub.tailSwap (by exact Sub.d (.d (.d (.d (.d (.d (.d (.d (.d (.pull [oI gx 25 (pC p k), rowI (aD zA) p.next.length 3 1 (nats s.idx), rowI (aD zB) p.next.length 3 1 (nats s.low), rowI sb sc 3 1 (nats s.stk), rowI (aD bx4) p.next.length 4 1 (bools s.dn)] _ (.k (.d (.d (.d (.d .rf))))))))))))))), s.all, ab, ac, ps, rfl, rfl, hps, hpo⟩
end Go.Proofs.YtnikhiohindggaaDoor


namespace Go.Lx
theorem DE_lt {d : DFA} (hv : Val d) : ∀ u v, DE d u v → v < d.next.length := fun u v ⟨hu, x, hx, e⟩ => e ▸ (hv.toN_lt hu hx).1
theorem run_rchD {d : DFA} (hv : Val d) : ∀ (w : List Nat) (s : Nat), s < d.next.length → Wd d w → Rch (DE d) s (runN d s w)
 | [], s, _, _ => .refl s
 | x :: w, s, hs, hw => by
  have hx := hw x (by simp)
  exact .step ⟨hs, x, hx, rfl⟩ (run_rchD hv w _ (hv.toN_lt hs hx).1 fun y hy => hw y (by simp [hy]))
theorem mem_order {d : DFA} (hv : Val d) {v : Nat} : v ∈ order d ↔ Rch (DE d) d.start.toNat v := by
 constructor
 ·intro h
  obtain ⟨w, hw, e⟩ := bfsN_reach hv _ v h
  rw [← e]; exact run_rchD hv w _ (start_lt hv) hw
 ·intro h
  have h0 : d.start.toNat ∈ order d := (bfsN_prefix d 0 d.next.length (Nat.zero_le _)).subset (by simp [bfsN])
  have all : ∀ a b, Rch (DE d) a b → a ∈ order d → b ∈ order d := fun a b hr => by
   induction hr with
   | refl => exact id
   | step e _ ih =>
    intro ha
    obtain ⟨hu, x, hx, rfl⟩ := e
    exact ih (order_closed hv _ ha _ (List.mem_map.2 ⟨x, List.mem_range.2 hx, rfl⟩))
  exact all _ _ h h0
def rchM (ks : List Nat) : List (Int × Bool) := ks.map fun v => (((v : Nat) : Int), true)
theorem rchM_look (v : Nat) : ∀ ks : List Nat, lookL ((v : Nat) : Int) (rchM ks) = if v ∈ ks then some true else none
 | [] => rfl
 | k :: ks => by
  have ih := rchM_look v ks
  unfold rchM at ih ⊢
  rw [List.map_cons]
  unfold lookL
  by_cases e : v = k
  ·subst e; simp
  ·rw [if_neg (by simp only; omega), ih]
   by_cases h : v ∈ ks <;> simp [h, e]
theorem rchM_at (ks : List Nat) (v : Nat) : (lookL ((v : Nat) : Int) (rchM ks)).getD false = decide (v ∈ ks) := by
 rw [rchM_look]; by_cases h : v ∈ ks <;> simp [h]
theorem rchM_new {ks : List Nat} {v : Nat} (h : v ∉ ks) : ((v : Nat) : Int) ∉ (rchM ks).map Prod.fst := fun hm => by
 unfold rchM at hm
 rw [List.map_map, List.mem_map] at hm
 obtain ⟨a, ha, e⟩ := hm
 have e2 : ((a : Nat) : Int) = ((v : Nat) : Int) := e
 have : a = v := by omega
 exact h (this ▸ ha)
theorem rchM_snoc (ks : List Nat) (v : Nat) : rchM (ks ++ [v]) = rchM ks ++ [(((v : Nat) : Int), true)] := by simp [rchM]
theorem add_old {ks : List Nat} {v : Nat} (h : v ∈ ks) : add ks v = ks := if_pos h
theorem add_new {ks : List Nat} {v : Nat} (h : v ∉ ks) : add ks v = ks ++ [v] := if_neg h
theorem drop_snoc {ks : List Nat} {i v : Nat} (h : i ≤ ks.length) : (ks ++ [v]).drop i = ks.drop i ++ [v] := by rw [List.drop_append_of_le_length h]
theorem bfsM_all {d : DFA} {i o : Nat} (h : (bfsN d i)[i]? = some o) : bfsM d i o (letN d) = bfsN d (i + 1) := (bfsN_succ h).symm
def alI (d : DFA) (al : Nat → Bool) (v : Nat) : Bool := decide (v ∈ order d) && al v
theorem alI_ins {d : DFA} (hv : Val d) (al : Nat → Bool) : (fun v => alI d al v = true) = Ins d al := funext fun v => propext (by
 unfold alI Ins
 rw [Bool.and_eq_true, decide_eq_true_eq, mem_order hv])
def FndI (one two : Nat → Bool) (ps : List (List Nat)) : Prop := ∀ P ∈ ps, ¬ ((∃ v ∈ P, one v = true) ∧ ∃ u ∈ P, two u = true)
theorem FndI.step {one two : Nat → Bool} {all : List (List Nat)} {i : Nat} (h : FndI one two (all.take i)) (hi : i < all.length) (hn : ¬ ((∃ v ∈ all[i], one v = true) ∧ ∃ u ∈ all[i], two u = true)) : FndI one two (all.take (i + 1)) := fun P hP => by
 rw [List.take_succ_eq_append_getElem hi] at hP
 rcases List.mem_append.1 hP with hP | hP
 ·exact h P hP
 ·rw [List.mem_singleton.1 hP]; exact hn
theorem find_none {d : DFA} (hv : Val d) {al one two : Nat → Bool} {all : List (List Nat)} (h : PartsOk d.next.length (DE d) (fun v => alI d al v = true) all) (hn : FndI one two all) : FindOk d al one two none := fun hh => by
 rw [alI_ins hv] at h
 obtain ⟨P, hP, h1, h2⟩ := (parts_has (DE_lt hv) (start_lt hv) h).1 hh
 exact hn P hP ⟨h1, h2⟩
theorem find_way1 {d : DFA} (hv : Val d) {al : Nat → Bool} {all : List (List Nat)} (h : PartsOk d.next.length (DE d) (fun v => alI d al v = true) all) {P : List Nat} (hP : P ∈ all) {s : Nat} (hs : s ∈ P) : ∃ (Q : Nat → Prop) (t : Nat), (∀ v, Q v → (fun _ : Nat => true) v = true) ∧ decide (t = s) = true ∧ ((false = false ∧ Rch (InS (DE d) Q) d.start.toNat t) ∨ ∃ c, InS (DE d) Q d.start.toNat c ∧ Rch (InS (DE d) Q) c t) := by
 rw [alI_ins hv] at h
 have hr := ((h.sub P hP s hs).2).1
 refine ⟨fun _ => True, s, fun _ _ => rfl, decide_eq_true rfl, .inl ⟨rfl, hr.mono fun u v e => ⟨e, trivial, trivial⟩⟩⟩
theorem find_way2 {d : DFA} (hv : Val d) {al two : Nat → Bool} {all : List (List Nat)} (h : PartsOk d.next.length (DE d) (fun v => alI d al v = true) all) {P : List Nat} (hP : P ∈ all) {s u : Nat} (hs : s ∈ P) (hu : u ∈ P) (h2 : two u = true) (far : Bool) : ∃ (Q : Nat → Prop) (t : Nat), (∀ v, Q v → (fun u : Nat => decide (u ∈ P)) v = true) ∧ two t = true ∧ ((far = false ∧ Rch (InS (DE d) Q) s t) ∨ ∃ c, InS (DE d) Q s c ∧ Rch (InS (DE d) Q) c t) := by
 rw [alI_ins hv] at h
 obtain ⟨c, h3, h4⟩ := part_ways h hP hs hu
 exact ⟨fun v => v ∈ P, u, fun v hv => decide_eq_true hv, h2, .inr ⟨c, h3, h4⟩⟩
theorem find_some {d : DFA} (hv : Val d) {al one two : Nat → Bool} {all : List (List Nat)} (h : PartsOk d.next.length (DE d) (fun v => alI d al v = true) all) {P : List Nat} (hP : P ∈ all) {s : Nat} (hs : s ∈ P) (ho : one s = true) {pre lo back : List Nat} {t : Nat} {l : La}
  (h1 : PathR d (fun _ => true) (fun u => decide (u = s)) d.start.toNat false pre s) (h2 : PathR d (fun u => decide (u ∈ P)) two s false lo t) (h3 : PathR d (fun u => decide (u ∈ P)) (fun u => decide (u = s)) t (decide (t = s)) back s) (hc : CanonOf ⟨pre, lo ++ back⟩ l) : FindOk d al one two (some l) := by
 rw [alI_ins hv] at h
 exact ⟨pre, lo ++ back, find_word (fun s w hs hw => runN_lt hv hs w hw) h hP hs ho h1 h2 h3, hc⟩
def FdR (d : DFA) (al one two : Nat → Bool) (b : Bool) (l : La) : Prop := if b = true then FindOk d al one two (some l) else l = ⟨[], []⟩ ∧ FindOk d al one two none
theorem rchM_zero {d : DFA} (hv : Val d) : rchM (bfsN d 0) = [(d.start, true)] := by
 have := hv.s0
 simp only [bfsN, rchM, List.map_cons, List.map_nil]
 rw [Int.toNat_of_nonneg hv.s0]
theorem bfs_zero {d : DFA} (hv : Val d) : nats ((bfsN d 0).drop 0) = [.int .i64 d.start] := by
 have := hv.s0
 simp only [bfsN, List.drop_zero, List.map_cons, List.map_nil]
 rw [Int.toNat_of_nonneg hv.s0]
theorem any_intY (p : Nat → Bool) : ∀ l : List Nat, (intY l).any (fun x => decide (p x.toNat = true)) = l.any p
 | [] => rfl
 | a :: l => by
  have ih := any_intY p l
  show (decide (p (Int.toNat ((a : Nat) : Int)) = true) || (intY l).any _) = (p a || l.any p)
  rw [ih, Int.toNat_natCast]
  cases p a <;> rfl
theorem no_any {p : Nat → Bool} {l : List Nat} (h : (intY l).any (fun x => decide (p x.toNat = true)) = false) : ¬ ∃ v ∈ l, p v = true := fun ⟨v, hv, hp⟩ => by
 rw [any_intY] at h
 rw [List.any_eq_true.2 ⟨v, hv, hp⟩] at h; cases h
theorem yes_any {p : Nat → Bool} {l : List Nat} (h : (intY l).any (fun x => decide (p x.toNat = true)) = true) : ∃ v ∈ l, p v = true := by
 rw [any_intY] at h
 obtain ⟨v, hv, hp⟩ := List.any_eq_true.1 h
 exact ⟨v, hv, hp⟩
theorem mem_intY {l : List Nat} {x : Int} (h : x ∈ intY l) : ∃ u : Nat, u ∈ l ∧ x = ((u : Nat) : Int) := by
 obtain ⟨u, hu, e⟩ := List.mem_map.1 h
 exact ⟨u, hu, e.symm⟩
theorem intY_get {l : List Nat} {k : Nat} (hk : k < (intY l).length) : (intY l)[k] = ((l[k]'(by rw [← intY_len]; exact hk) : Nat) : Int) := List.getElem_map _
theorem PathR.small {d : DFA} (hn : d.next.length ≤ 4096) {al to : Nat → Bool} {frm : Nat} {far : Bool} {w : List Nat} {t : Nat} (h : PathR d al to frm far w t) : w.length ≤ 4096 := by have := h.len; omega
theorem FindL.ok {d : DFA} {al one two : Nat → Bool} {pre loop : List Nat} (h : FindL d al one two pre loop) : 0 < loop.length := h.pos
theorem prNext_step {a b : DFA} {s t : Nat} (hs : s < a.next.length) (ht : t < b.next.length) : (prNext a b).take (s * b.next.length + (t + 1)) = (prNext a b).take (s * b.next.length + t) ++ [prRow a b s t] := by
 have h := prNext_at hs ht
 have hl := (List.getElem?_eq_some_iff.1 h).1
 rw [List.getElem?_eq_getElem hl] at h
 rw [show s * b.next.length + (t + 1) = s * b.next.length + t + 1 by omega, List.take_succ_eq_append_getElem hl, Option.some.inj h]
def rCut (r : List Int) (x : Nat) : List Int := r.take x ++ List.replicate (r.length - x) 0
theorem rCut_zero (r : List Int) : rCut r 0 = List.replicate r.length 0 := by simp [rCut]
theorem rCut_end (r : List Int) : rCut r r.length = r := by simp [rCut]
theorem rCut_len (r : List Int) {x : Nat} (h : x ≤ r.length) : (rCut r x).length = r.length := by simp [rCut]; omega
theorem rCut_set {r : List Int} {x : Nat} {v : Int} (hx : x < r.length) (h : r[x]? = some v) : (rCut r x).set x v = rCut r (x + 1) := by
 unfold rCut
 have hl : (r.take x).length = x := by rw [List.length_take]; omega
 rw [List.getElem?_eq_getElem hx] at h
 rw [List.set_append_right _ _ (by omega), hl, Nat.sub_self, show r.length - x = (r.length - (x + 1)) + 1 by omega, List.replicate_succ, List.set_cons_zero, List.take_succ_eq_append_getElem hx, Option.some.inj h]
 simp
def pairP (p q : Par) : Par := ⟨p.vars, ((p.start.toNat * q.next.length + q.start.toNat : Nat) : Int), prNext p.d q.d, []⟩
def nilLa : La := ⟨[], []⟩
def diE (p q : Par) : Nat := if checkP p ≠ 0 then checkP p else if checkP q ≠ 0 then checkP q else if p.vars ≠ q.vars then 7 else 0
def WiR (p : Par) (l : La) (e : Nat) : Prop := (checkP p ≠ 0 ∧ e = checkP p ∧ l = nilLa) ∨ (checkP p = 0 ∧ e = 0 ∧ ∃ k, k % 2 = 0 ∧ k ≤ 16 ∧ FindOk p.d (alW p k) (topW p k) (topW p k) (some l)) ∨ (checkP p = 0 ∧ e = 9 ∧ l = nilLa ∧ ¬ witP p)
def DiR (p q : Par) (l : La) (b : Bool) (e : Nat) : Prop := (diE p q ≠ 0 ∧ e = diE p q ∧ b = false ∧ l = nilLa) ∨ (diE p q = 0 ∧ e = 0 ∧ b = true ∧ ∃ i j, i % 2 ≠ j % 2 ∧ i ≤ 16 ∧ j ≤ 16 ∧ FindOk (prG p q) (alD p q i j) (fun v => decide (f1 p q v = i)) (fun v => decide (f2 q v = j)) (some l)) ∨ (diE p q = 0 ∧ e = 0 ∧ b = false ∧ l = nilLa ∧ ¬ differP p q)
theorem diE_zero {p q : Par} : diE p q = 0 ↔ ValidP p ∧ ValidP q ∧ p.vars = q.vars := by
 unfold diE
 by_cases h1 : checkP p = 0
 ·by_cases h2 : checkP q = 0
  ·by_cases h3 : p.vars = q.vars
   ·rw [if_neg (by simp [h1]), if_neg (by simp [h2]), if_neg (by simp [h3])]
    exact ⟨fun _ => ⟨checkP_zero.1 h1, checkP_zero.1 h2, h3⟩, fun _ => rfl⟩
   ·rw [if_neg (by simp [h1]), if_neg (by simp [h2]), if_pos h3]
    exact ⟨fun h => (by cases h), fun h => absurd h.2.2 h3⟩
  ·rw [if_neg (by simp [h1]), if_pos h2]
   exact ⟨fun h => absurd h h2, fun h => absurd (checkP_zero.2 h.2.1) h2⟩
 ·rw [if_pos h1]
  exact ⟨fun h => absurd h h1, fun h => absurd (checkP_zero.2 h.1) h1⟩
end Go.Lx


namespace Go.Lx
open Go.RowKit
theorem sbY (a : Int) : Instr.sameBits 10000 (KIn a) (KIn a) = true := by simp [Instr.sameBits]
def st3C (sts : List St3) : List Value := sts.flatMap fun q => [.int .i64 (q.1 : Int), .int .i64 q.2.1, .int .u8 (q.2.2 : Int)]
theorem st3_get {sts : List St3} {i : Nat} (h : i < sts.length) (j : Nat) (hj : j < 3) : (st3C sts)[i * 3 + j]? = ([Value.int .i64 (sts[i].1 : Int), .int .i64 sts[i].2.1, .int .u8 (sts[i].2.2 : Int)])[j]? := flatL_get (F := fun q : St3 => [Value.int .i64 (q.1 : Int), .int .i64 q.2.1, .int .u8 (q.2.2 : Int)]) (fun _ => rfl) h j hj
theorem st3_len (sts : List St3) : (st3C sts).length = sts.length * 3 := flatL_len (F := fun q : St3 => [Value.int .i64 (q.1 : Int), .int .i64 q.2.1, .int .u8 (q.2.2 : Int)]) (fun _ => rfl) sts
theorem st3_snoc (sts : List St3) (s : Nat) (b : Int) (x : Nat) : st3C (sts ++ [(s, b, x)]) = st3C sts ++ [.int .i64 (s : Int), .int .i64 b, .int .u8 (x : Int)] := by simp [st3C]
def SeenM (far : Bool) (frm : Nat) (st : List St3) (m : List (Int × Bool)) : Prop := ∀ t : Nat, (lookL ((t : Nat) : Int) m).getD false = true ↔ SeenB far frm st t
theorem SeenM.start (far : Bool) (frm : Nat) : SeenM far frm [(frm, -1, 0)] [(((frm : Nat) : Int), !far)] := fun t => by
 unfold lookL SeenB
 by_cases e : ((t : Nat) : Int) = ((frm : Nat) : Int)
 ·rw [if_pos e]
  have e2 : t = frm := by omega
  subst e2
  cases far <;> simp
 ·rw [if_neg e]
  have e2 : t ≠ frm := by omega
  unfold lookL
  simp [e2]
theorem SeenM.put {far : Bool} {frm : Nat} {st : List St3} {m : List (Int × Bool)} (h : SeenM far frm st m) (h0 : 0 < st.length) (t : Nat) (b : Int) (x : Nat) : SeenM far frm (st ++ [(t, b, x)]) (putA ((t : Nat) : Int) true m) := fun s => by
 rw [lookY_put]
 unfold SeenB
 rw [drop_app h0]
 by_cases e : ((s : Nat) : Int) = ((t : Nat) : Int)
 ·rw [if_pos e]
  have e2 : s = t := by omega
  subst e2
  simp
 ·rw [if_neg e, h s]
  have e2 : s ≠ t := by omega
  unfold SeenB
  simp [e2]
theorem pathR_nil {d : DFA} {al to : Nat → Bool} {frm : Nat} (h : to frm = true) : PathR d al to frm false [] frm :=
 ⟨fun x hx => (by cases hx), rfl, h, fun v hv => (by cases hv), fun e => (by cases e), Nat.zero_le _⟩
end Go.Lx


namespace Go.Proofs.YtnikhiohindggaaDoor
open Go.Lx Go.RowKit _root_.Go.Proofs.Tryd
theorem setF (base : World) [Tab Tryd.prog base] (sb m : Nat) (mm : List (Int × Bool)) (u : Nat) :
  CallT Tryd.prog base 54 [vI ((u : Nat) : Int), .pointer (aD sb)] [oI sb 79 [(.map (some m))], mapI KIn Value.bool m mm] (fun v O' => v = .bool (decide (inM mm u = true)) ∧ O' = [oI sb 79 [(.map (some m))], mapI KIn Value.bool m mm]) := by
 refine CallT.enter func54 rfl ntmps54 rfl ?_
 refine T.s (T.rg (TO.qa rfl (TO.nl (T.s (T.rg (TO.q (q_lb 0 underlying79 rfl rfl rfl rfl) (TO.qm rfl (TO.q (QT.cast (q_lookup (K := KIn) (V := Value.bool) (a := ((u : Nat) : Int)) underlying79 inf4 (KeyOk.int underlying3) rfl rfl (mG 1 rfl)) (v' := .bool (decide (inM mm u = true))) (by unfold inM; cases lookL ((u : Nat) : Int) mm with | none => rfl | some b => cases b <;> rfl)) (TO.qa rfl (TO.nl (T.ret ?_)))))))))))
 refine Res.one (.bool (decide (inM mm u = true))) Tryd.results54 rfl ?_
 exact ⟨rfl, rfl⟩
theorem outF (base : World) [Tab Tryd.prog base] (n ob : Nat) (rb : Option Addr) (rc : Nat) (o : List Nat) (hl : o.length = n) (s : Nat) (hs : s < n) :
  CallT Tryd.prog base 55 [vI ((s : Nat) : Int), .pointer (aD ob)] [oI ob 23 [(.slice rb n rc)], rowI rb rc 3 1 (nats o)] (fun v O' => v = vI ((fn o s : Nat) : Int) ∧ O' = [oI ob 23 [(.slice rb n rc)], rowI rb rc 3 1 (nats o)]) := by
 refine CallT.enter func55 rfl ntmps55 rfl ?_
 have hso : s < o.length := by omega
 have hgv : (nats o)[s]? = some (vI ((fn o s : Nat) : Int)) := by rw [fn_get hso]; exact nats_get hso
 refine T.s (T.rg (TO.qa rfl (TO.nl (T.s (T.rg (TO.q (q_lb 0 underlying23 rfl rfl rfl rfl) (TO.qm rfl (TO.q (q_ix (i := s) underlying23 inf3 rfl rfl (rowO (mG 1 rfl)) hs (by rw [List.length_map]; exact hso)) (TO.q (q_ld underlying3 rfl rfl (rowO (mG 1 rfl)) hgv) (TO.qa rfl (TO.nl (T.ret ?_))))))))))))
 refine Res.one (vI ((fn o s : Nat) : Int)) Tryd.results55 rfl ?_
 exact ⟨rfl, rfl⟩
abbrev redO (p : Par) (k : DK) (gb pb fb ob gx : Nat) (rb : Option Addr) (rc : Nat) (o : List Nat) (m : Nat) (mm : List (Int × Bool)) : List Lx.Item := [oI gb 76 [vI ((p.next.length : Nat) : Int), (.func (.func 77) #[] #[(.pointer (aD gx))])], oI pb 25 (pC p k), oI fb 78 [(.func (.func 52) #[] #[(.pointer (aD gb)), (.pointer (aD pb)), (.pointer (aD fb)), (.pointer (aD ob))])], oI ob 23 [(.slice rb p.next.length rc)], oI gx 25 (pC p k), rowI rb rc 3 1 (nats o), mapI KIn Value.bool m mm]
theorem reduceF (base : World) [Tab Tryd.prog base] (p : Par) (k : DK) (h : AtP base p k) (hp : ValidP p) (gb pb fb ob gx : Nat) (rb : Option Addr) (rc : Nat) :
  ∀ (N : Nat) (mm : List (Int × Bool)) (m : Nat) (o : List Nat) (hN : cardS p.next.length (fun u => inM mm u = true) = N) (hS : ∀ u, inM mm u = true → u < p.next.length) (hol : o.length = p.next.length) (h0 : ∀ u, inM mm u = true → fn o u = 0),
  CallT Tryd.prog base 52 [(.map (some m)), (.pointer (aD gb)), (.pointer (aD pb)), (.pointer (aD fb)), (.pointer (aD ob))] (redO p k gb pb fb ob gx rb rc o m mm) (fun v O' => ∃ o2 most, v = vI ((most : Nat) : Int) ∧ O' = redO p k gb pb fb ob gx rb rc o2 m mm ∧ o2.length = p.next.length ∧ RedE (DE p.d) (prN p) (fun u => inM mm u = true) (fn o) (fn o2) most) := by
 intro N
 induction N using Nat.strongRecOn with
 | _ N ih => ?_
 intro mm m o hN hS hol h0
 refine CallT.enter func52 rfl ntmps52 rfl ?_
 have hn4 := hp.n4
 refine T.s (T.rg (TO.l rfl (l_box (v := (.map (some m))) (cs := [(.map (some m))]) rfl rfl (fun z1 => ?_))))
 refine TO.qa rfl (TO.nl (T.s (T.s (T.rg (TO.q (q_la 1 underlying76 rfl inf76 rfl rfl rfl) (TO.q (q_makeFunc) ?_))))))
 have hk20 := CallT.atR (O := [oI z1 79 [(.map (some m))], oI gb 76 [vI ((p.next.length : Nat) : Int), (.func (.func 77) #[] #[(.pointer (aD gx))])], oI pb 25 (pC p k), oI fb 78 [(.func (.func 52) #[] #[(.pointer (aD gb)), (.pointer (aD pb)), (.pointer (aD fb)), (.pointer (aD ob))])], oI ob 23 [(.slice rb p.next.length rc)], oI gx 25 (pC p k), rowI rb rc 3 1 (nats o), mapI KIn Value.bool m mm]) [oI gb 76 [vI ((p.next.length : Nat) : Int), (.func (.func 77) #[] #[(.pointer (aD gx))])], oI pb 25 (pC p k), oI fb 78 [(.func (.func 52) #[] #[(.pointer (aD gb)), (.pointer (aD pb)), (.pointer (aD fb)), (.pointer (aD ob))])], oI ob 23 [(.slice rb p.next.length rc)], rowI rb rc 3 1 (nats o)] (componentsC base p k h hp.val hp.n4 hp.letN6 (DE_lt hp.val) [oI z1 79 [(.map (some m))], mapI KIn Value.bool m mm] (inM mm) (.func (.func 54) #[] #[(.pointer (aD z1))]) rfl (fun u hu => CallV.of_fn (first := []) (args := [vI ((u : Nat) : Int)]) (caps := [(.pointer (aD z1))]) ent54 (setF base z1 m mm u)) gx) (by exact Sub.pull [oI z1 79 [(.map (some m))]] _ (.pull [oI z1 79 [(.map (some m))]] _ (.pull [oI z1 79 [(.map (some m))]] _ (.pull [oI z1 79 [(.map (some m))]] _ (.pull [oI z1 79 [(.map (some m))], oI gx 25 (pC p k)] _ (.pull [oI z1 79 [(.map (some m))]] _ (.k (.k .z))))))))
 refine TO.l rfl (l_call ent53 hk20 rfl ?_)
 clear hk20
 rintro vr O' ⟨A1, rfl, all, ab, ac, ps, rfl, rfl, hps, hpo⟩
 have hpl := parts_len hps
 have hfew := hpo.few
 refine TO.q (q_len underlying22 rfl) (TO.qm rfl (TO.nl (T.block ?_)))
 refine T.loopS (fun (i : Nat) ρ O => ∃ (o2 : List Nat) (most : Nat), O = ([oI gb 76 [vI ((p.next.length : Nat) : Int), (.func (.func 77) #[] #[(.pointer (aD gx))])], oI pb 25 (pC p k), oI fb 78 [(.func (.func 52) #[] #[(.pointer (aD gb)), (.pointer (aD pb)), (.pointer (aD fb)), (.pointer (aD ob))])], oI ob 23 [(.slice rb p.next.length rc)], rowI rb rc 3 1 (nats o2), rowI ab ac 23 1 (vals ps), oI gx 25 (pC p k), oI z1 79 [(.map (some m))], mapI KIn Value.bool m mm] ++ (itms 3 ps)) ∧ i ≤ all.length ∧ most ≤ 17 ∧ o2.length = p.next.length ∧ RedI (DE p.d) (prN p) (fn o) (fn o2) (all.take i) most ∧ Heads [(0, (.map (some m))), (1, (.pointer (aD gb))), (2, (.pointer (aD pb))), (3, (.pointer (aD fb))), (4, (.pointer (aD ob))), (5, (.pointer (aD z1))), (6, vI ((most : Nat) : Int)), (20, (.slice ab ps.length ac)), (21, vI (ps.length : Int)), (22, vI ((i : Nat) : Int))] ρ) (fun i => all.length - i) 0 ?_ ?_
 ·exact ⟨o, 0, rfl, Nat.zero_le _, Nat.zero_le _, hol, RedI.start _ _ _, (.of rfl)⟩
 rintro i ρ O ⟨o2, most, rfl, hi, hmo, hol2, hRI, hH⟩
 obtain ⟨ρ0, rfl⟩ := hH.elim
 clear hH
 refine T.s (T.rg (TO.q (q_lss rfl rfl) (TO.nl (T.s (T.condP rfl (fun hc => ?_) (fun hc => ?_))))))
 ·have hlt23 : i < ps.length := by omega
  have hil : i < all.length := by omega
  obtain ⟨l, hle⟩ : ∃ l, all[i] = l := ⟨_, rfl⟩
  obtain ⟨rb9, rc9, hRi⟩ := part_rec hps hil
  rw [hle] at hRi
  have hi2 : i < ps.length := by omega
  have hlm : l ∈ all := hle ▸ List.getElem_mem hil
  have hln := hpo.ne l hlm
  have hsub := hpo.sub l hlm
  have hmxl := mxP_is (pr := prN p) hln
  have hdj : ∀ Q ∈ all.take i, ∀ v ∈ Q, v ∉ l := fun Q hQ v hv => hle ▸ take_disj hpo.nd hil Q hQ v hv
  have hll : l.length ≤ 4096 := by
   have h1 := hpo.len
   have h2 : l.length ≤ all.flatten.length := (List.sublist_flatten_of_mem hlm).length_le
   omega
  refine T.skip (T.s (T.block (T.s (T.rg (TO.q (q_ix (i := i) underlying22 inf23 rfl rfl (rowO (mG 5 rfl)) hi2 (by rw [List.length_map]; exact hi2)) (TO.q (q_ld underlying23 rfl rfl (rowO (mG 5 rfl)) (part_val hRi)) (TO.qa rfl (TO.nl (T.s (T.rg (TO.qa rfl (TO.nl (T.s (T.s (T.rg (TO.qm rfl (TO.q (q_len underlying23 rfl) (TO.qm rfl (TO.nl (T.block ?_))))))))))))))))))))
  refine T.loop (fun (j2 : Nat) ρ O => O = ([oI gb 76 [vI ((p.next.length : Nat) : Int), (.func (.func 77) #[] #[(.pointer (aD gx))])], oI pb 25 (pC p k), oI fb 78 [(.func (.func 52) #[] #[(.pointer (aD gb)), (.pointer (aD pb)), (.pointer (aD fb)), (.pointer (aD ob))])], oI ob 23 [(.slice rb p.next.length rc)], rowI rb rc 3 1 (nats o2), rowI ab ac 23 1 (vals ps), oI gx 25 (pC p k), oI z1 79 [(.map (some m))], mapI KIn Value.bool m mm] ++ (itms 3 ps)) ∧ j2 ≤ l.length ∧ Heads [(0, (.map (some m))), (1, (.pointer (aD gb))), (2, (.pointer (aD pb))), (3, (.pointer (aD fb))), (4, (.pointer (aD ob))), (5, (.pointer (aD z1))), (6, vI ((most : Nat) : Int)), (8, (.slice rb9 l.length rc9)), (9, vI ((mxP (prN p) (l.take j2) : Nat) : Int)), (20, (.slice ab ps.length ac)), (21, vI (ps.length : Int)), (22, vI ((i : Nat) : Int)), (26, (.slice rb9 l.length rc9)), (27, vI (l.length : Int)), (28, vI ((j2 : Nat) : Int))] ρ) (fun j2 => l.length - j2) 0 ?_ ?_
  ·exact ⟨rfl, Nat.zero_le _, (.of rfl)⟩
  rintro j2 ρ O ⟨rfl, hj2, hH⟩
  obtain ⟨ρ0, rfl⟩ := hH.elim
  clear hH
  refine T.s (T.rg (TO.q (q_lss rfl rfl) (TO.nl (T.s (T.condP rfl (fun hc => ?_) (fun hc => ?_))))))
  ·have hlt29 : j2 < l.length := by omega
   have hjl2 : j2 < l.length := by omega
   obtain ⟨hjn, hjS⟩ := hsub _ (List.getElem_mem hjl2)
   have hjp : l[j2] < p.prio.length := by rw [hp.pl]; exact hjn
   have hpb := hp.prLe l[j2]
   refine T.skip (T.s (T.block (T.s (T.rg (TO.q (q_ix (i := j2) underlying23 inf3 rfl rfl (fun w9 hI9 => hI9.slOf (List.mem_append_right _ (part_row hRi))) hjl2 (by rw [List.length_map]; exact hjl2)) (TO.q (q_ld underlying3 rfl rfl (fun w9 hI9 => hI9.slOf (List.mem_append_right _ (part_row hRi))) (nats_get hjl2)) (TO.qa rfl (TO.nl (T.rg (TO.qm rfl (TO.q (q_fa underlying25 rfl inf23 rfl rfl) (TO.q (q_lb 1 underlying23 rfl rfl rfl rfl) (TO.qm rfl ?_)))))))))))))
   refine TO.q (q_ix (i := l[j2]) underlying23 inf3 rfl rfl (Sl.o h.prio) hjp (by rw [List.length_map]; exact hjp)) (TO.q (q_ld underlying3 rfl rfl (Sl.o h.prio) (by rw [ints, List.getElem?_map, hp.prAt hjn]; rfl)) (TO.q (q_maxN (a := (mxP (prN p) (l.take j2))) (b := (prN p l[j2])) rfl rfl) (TO.qa rfl ?_)))
   refine TO.nl (T.rg (TO.q (q_addN (a := j2) (b := 1) rfl rfl (by omega)) (TO.qm rfl (TO.nl ?_))))
   exact ⟨j2 + 1, by omega, rfl, by omega, ⟨rfl, rfl, rfl, rfl, rfl, rfl, rfl, rfl, (by rw [mxP_take hjl2]; rfl), rfl, rfl, rfl, rfl, rfl, rfl, trivial⟩⟩
  have hge29 : ¬ j2 < l.length := by omega
  refine T.exit ?_
  refine T.s (T.rg (TO.l rfl (l_makeMap KIn Value.bool (fun mq2 => ?_))))
  refine TO.qa rfl (TO.nl (T.s (T.s (T.rg (TO.qm rfl (TO.q (q_len underlying23 rfl) (TO.qm rfl (TO.nl (T.block ?_)))))))))
  refine T.loopS (fun (j : Nat) ρ O => ∃ (mr : List (Int × Bool)), O = ([mapI KIn Value.bool mq2 mr, oI gb 76 [vI ((p.next.length : Nat) : Int), (.func (.func 77) #[] #[(.pointer (aD gx))])], oI pb 25 (pC p k), oI fb 78 [(.func (.func 52) #[] #[(.pointer (aD gb)), (.pointer (aD pb)), (.pointer (aD fb)), (.pointer (aD ob))])], oI ob 23 [(.slice rb p.next.length rc)], rowI rb rc 3 1 (nats o2), rowI ab ac 23 1 (vals ps), oI gx 25 (pC p k), oI z1 79 [(.map (some m))], mapI KIn Value.bool m mm] ++ (itms 3 ps)) ∧ j ≤ l.length ∧ (∀ u, inM mr u = decide (u ∈ l.take j ∧ prN p u < mxP (prN p) (l.take j2))) ∧ Heads [(0, (.map (some m))), (1, (.pointer (aD gb))), (2, (.pointer (aD pb))), (3, (.pointer (aD fb))), (4, (.pointer (aD ob))), (5, (.pointer (aD z1))), (6, vI ((most : Nat) : Int)), (8, (.slice rb9 l.length rc9)), (9, vI ((mxP (prN p) (l.take j2) : Nat) : Int)), (12, (.map (some mq2))), (20, (.slice ab ps.length ac)), (21, vI (ps.length : Int)), (22, vI ((i : Nat) : Int)), (41, (.slice rb9 l.length rc9)), (42, vI (l.length : Int)), (43, vI ((j : Nat) : Int))] ρ) (fun j => l.length - j) 0 ?_ ?_
  ·exact ⟨[], rfl, Nat.zero_le _, (fun u => by simp [inM_nil]), (.of rfl)⟩
  rintro j ρ O ⟨mr, rfl, hj, hmr, hH⟩
  obtain ⟨ρ0, rfl⟩ := hH.elim
  clear hH
  refine T.s (T.rg (TO.q (q_lss rfl rfl) (TO.nl (T.s (T.condP rfl (fun hc => ?_) (fun hc => ?_))))))
  ·have hlt44 : j < l.length := by omega
   have hjl : j < l.length := by omega
   obtain ⟨hjn, hjS⟩ := hsub _ (List.getElem_mem hjl)
   have hjp : l[j] < p.prio.length := by rw [hp.pl]; exact hjn
   have hpb := hp.prLe l[j]
   refine T.skip (T.s (T.block (T.s (T.rg (TO.q (q_ix (i := j) underlying23 inf3 rfl rfl (fun w9 hI9 => hI9.slOf (List.mem_append_right _ (part_row hRi))) hjl (by rw [List.length_map]; exact hjl)) (TO.q (q_ld underlying3 rfl rfl (fun w9 hI9 => hI9.slOf (List.mem_append_right _ (part_row hRi))) (nats_get hjl)) (TO.qa rfl (TO.nl (T.s (T.rg (TO.q (q_fa underlying25 rfl inf23 rfl rfl) (TO.q (q_lb 2 underlying23 rfl rfl rfl rfl) (TO.qm rfl (TO.q (q_ix (i := l[j]) underlying23 inf3 rfl rfl (Sl.o h.prio) hjp (by rw [List.length_map]; exact hjp)) ?_))))))))))))))
   refine TO.q (q_ld underlying3 rfl rfl (Sl.o h.prio) (by rw [ints, List.getElem?_map, hp.prAt hjn]; rfl)) (TO.qm rfl (TO.q (q_lss rfl rfl) ?_))
   refine TO.nl (T.condP rfl (fun hc => ?_) (fun hc => ?_))
   ·have hlt53 : prN p l[j] < mxP (prN p) (l.take j2) := by omega
    refine T.rg (TO.qm rfl (TO.qm rfl (TO.l rfl (l_mapPutA (K := KIn) (V := Value.bool) (a := ((l[j] : Nat) : Int)) (v := true) 0 underlying79 (KeyOk.int underlying3) (sbY _) rfl rfl rfl rfl ?_))))
    refine TO.nl (T.rg (TO.q (q_addN (a := j) (b := 1) rfl rfl (by omega)) (TO.qm rfl (TO.nl ?_))))
    exact ⟨j + 1, by omega, ([mapI KIn Value.bool mq2 (putA ((l[j] : Nat) : Int) true mr), oI gb 76 [vI ((p.next.length : Nat) : Int), (.func (.func 77) #[] #[(.pointer (aD gx))])], oI pb 25 (pC p k), oI fb 78 [(.func (.func 52) #[] #[(.pointer (aD gb)), (.pointer (aD pb)), (.pointer (aD fb)), (.pointer (aD ob))])], oI ob 23 [(.slice rb p.next.length rc)], rowI rb rc 3 1 (nats o2), rowI ab ac 23 1 (vals ps), oI gx 25 (pC p k), oI z1 79 [(.map (some m))], mapI KIn Value.bool m mm] ++ (itms 3 ps)), (by exact Sub.rf), putA ((l[j] : Nat) : Int) true mr, rfl, by omega, inM_rest hjl hmr hlt53, (.of rfl)⟩
   have hge53 : ¬ prN p l[j] < mxP (prN p) (l.take j2) := by omega
   refine T.skip (T.rg (TO.q (q_addN (a := j) (b := 1) rfl rfl (by omega)) (TO.qm rfl (TO.nl ?_))))
   exact ⟨j + 1, by omega, ([mapI KIn Value.bool mq2 mr, oI gb 76 [vI ((p.next.length : Nat) : Int), (.func (.func 77) #[] #[(.pointer (aD gx))])], oI pb 25 (pC p k), oI fb 78 [(.func (.func 52) #[] #[(.pointer (aD gb)), (.pointer (aD pb)), (.pointer (aD fb)), (.pointer (aD ob))])], oI ob 23 [(.slice rb p.next.length rc)], rowI rb rc 3 1 (nats o2), rowI ab ac 23 1 (vals ps), oI gx 25 (pC p k), oI z1 79 [(.map (some m))], mapI KIn Value.bool m mm] ++ (itms 3 ps)), (by exact Sub.rf), mr, rfl, by omega, inM_skip hjl hmr hge53, (.of rfl)⟩
  have hge44 : ¬ j < l.length := by omega
  refine T.exit ?_
  refine T.s ?_
  have hj2e : l.take j2 = l := List.take_of_length_le (by omega)
  have hjle : l.take j = l := List.take_of_length_le (by omega)
  have hmr2 : ∀ u, inM mr u = true ↔ u ∈ l ∧ prN p u < mxP (prN p) (l.take j2) := fun u => by rw [hmr u, decide_eq_true_eq, hjle]
  have hrest2 : (fun u => inM mr u = true) = fun u => u ∈ l ∧ prN p u < mxP (prN p) (l.take j2) := funext fun u => propext (hmr2 u)
  have hSr : ∀ u, inM mr u = true → u < p.next.length := fun u hu => (hsub u ((hmr2 u).1 hu).1).1
  have h0r : ∀ u, inM mr u = true → fn o2 u = 0 := fun u hu => by
   rw [hRI.out u (fun Q hQ hm9 => hdj Q hQ u hm9 ((hmr2 u).1 hu).1)]
   exact h0 u (hsub u ((hmr2 u).1 hu).1).2
  have hless : cardS p.next.length (fun u => inM mr u = true) < N := by
   rw [← hN]
   obtain ⟨u9, hu9, hue⟩ := hmxl.1
   exact cardS_lt (fun u hu => (hsub u ((hmr2 u).1 hu).1).2) (hsub u9 hu9).1 (hsub u9 hu9).2 (fun g => by have g2 := ((hmr2 u9).1 g).2; rw [hj2e] at g2; omega)
  refine T.rg (TO.q (q_lb 3 underlying78 rfl rfl rfl rfl) (TO.qm rfl ?_))
  have hk59 := CallV.under (A := [oI gb 76 [vI ((p.next.length : Nat) : Int), (.func (.func 77) #[] #[(.pointer (aD gx))])], oI pb 25 (pC p k), oI fb 78 [(.func (.func 52) #[] #[(.pointer (aD gb)), (.pointer (aD pb)), (.pointer (aD fb)), (.pointer (aD ob))])], oI ob 23 [(.slice rb p.next.length rc)], oI gx 25 (pC p k), rowI rb rc 3 1 (nats o2), mapI KIn Value.bool mq2 mr]) (B := [rowI ab ac 23 1 (vals ps), oI z1 79 [(.map (some m))], mapI KIn Value.bool m mm] ++ (itms 3 ps)) (O := ([mapI KIn Value.bool mq2 mr, oI gb 76 [vI ((p.next.length : Nat) : Int), (.func (.func 77) #[] #[(.pointer (aD gx))])], oI pb 25 (pC p k), oI fb 78 [(.func (.func 52) #[] #[(.pointer (aD gb)), (.pointer (aD pb)), (.pointer (aD fb)), (.pointer (aD ob))])], oI ob 23 [(.slice rb p.next.length rc)], rowI rb rc 3 1 (nats o2), rowI ab ac 23 1 (vals ps), oI gx 25 (pC p k), oI z1 79 [(.map (some m))], mapI KIn Value.bool m mm] ++ (itms 3 ps))) (CallV.of_fn (first := []) (args := [(.map (some mq2))]) (caps := [(.pointer (aD gb)), (.pointer (aD pb)), (.pointer (aD fb)), (.pointer (aD ob))]) ent52 (ih _ hless mr mq2 o2 rfl hSr hol2 h0r)) (by exact Sub.pull [mapI KIn Value.bool mq2 mr] _ (.pull [mapI KIn Value.bool mq2 mr] _ (.pull [mapI KIn Value.bool mq2 mr] _ (.pull [mapI KIn Value.bool mq2 mr] _ (.pull [mapI KIn Value.bool mq2 mr, rowI rb rc 3 1 (nats o2), rowI ab ac 23 1 (vals ps)] _ (.pull [mapI KIn Value.bool mq2 mr] _ (.k (.k (.k (.k .rf))))))))))
  refine TO.l rfl (l_callG hk59 rfl rfl ?_)
  clear hk59
  rintro vr O' ⟨A1, rfl, o3, k3, rfl, rfl, hol3, hrE⟩
  have hk3 : k3 ≤ 16 := hrE.le hSr hp.prLe
  have hm16 : mxP (prN p) (l.take j2) ≤ 16 := mxP_le hp.prLe _
  refine TO.qa rfl (TO.nl (T.s (T.rg (TO.qm rfl (TO.qm rfl (TO.qm rfl (TO.q (q_addN (a := k3) (b := (mxP (prN p) (l.take j2))) rfl rfl (by omega)) (TO.q (q_remN (a := (k3 + (mxP (prN p) (l.take j2)))) (b := 2) rfl rfl (by omega)) (TO.q (q_addN (a := k3) (b := ((k3 + (mxP (prN p) (l.take j2))) % 2)) rfl rfl (by omega)) (TO.qa rfl (TO.nl (T.s (T.s (T.rg (TO.qm rfl (TO.q (q_len underlying23 rfl) (TO.qm rfl (TO.nl (T.block ?_)))))))))))))))))))
  refine T.loopS (fun (j4 : Nat) ρ O => ∃ (o4 : List Nat), O = ([oI gb 76 [vI ((p.next.length : Nat) : Int), (.func (.func 77) #[] #[(.pointer (aD gx))])], oI pb 25 (pC p k), oI fb 78 [(.func (.func 52) #[] #[(.pointer (aD gb)), (.pointer (aD pb)), (.pointer (aD fb)), (.pointer (aD ob))])], oI ob 23 [(.slice rb p.next.length rc)], oI gx 25 (pC p k), rowI rb rc 3 1 (nats o4), mapI KIn Value.bool mq2 mr, rowI ab ac 23 1 (vals ps), oI z1 79 [(.map (some m))], mapI KIn Value.bool m mm] ++ (itms 3 ps)) ∧ j4 ≤ l.length ∧ o4.length = p.next.length ∧ (∀ u, fn o4 u = if u ∈ l.take j4 ∧ ¬ prN p u < mxP (prN p) (l.take j2) then k3 + (k3 + mxP (prN p) (l.take j2)) % 2 else fn o3 u) ∧ Heads [(0, (.map (some m))), (1, (.pointer (aD gb))), (2, (.pointer (aD pb))), (3, (.pointer (aD fb))), (4, (.pointer (aD ob))), (5, (.pointer (aD z1))), (6, vI ((most : Nat) : Int)), (8, (.slice rb9 l.length rc9)), (9, vI ((mxP (prN p) (l.take j2) : Nat) : Int)), (12, (.map (some mq2))), (15, vI ((k3 + ((k3 + (mxP (prN p) (l.take j2))) % 2) : Nat) : Int)), (20, (.slice ab ps.length ac)), (21, vI (ps.length : Int)), (22, vI ((i : Nat) : Int)), (66, (.slice rb9 l.length rc9)), (67, vI (l.length : Int)), (68, vI ((j4 : Nat) : Int))] ρ) (fun j4 => l.length - j4) 0 ?_ ?_
  ·exact ⟨o3, rfl, Nat.zero_le _, hol3, (fun u => by simp), (.of rfl)⟩
  rintro j4 ρ O ⟨o4, rfl, hj4, hol4, hs4, hH⟩
  obtain ⟨ρ0, rfl⟩ := hH.elim
  clear hH
  refine T.s (T.rg (TO.q (q_lss rfl rfl) (TO.nl (T.s (T.condP rfl (fun hc => ?_) (fun hc => ?_))))))
  ·have hlt69 : j4 < l.length := by omega
   have hjl4 : j4 < l.length := by omega
   obtain ⟨hjn, hjS⟩ := hsub _ (List.getElem_mem hjl4)
   have hjp : l[j4] < p.prio.length := by rw [hp.pl]; exact hjn
   have hpb := hp.prLe l[j4]
   have hin4 : inM mr l[j4] = decide (prN p l[j4] < mxP (prN p) (l.take j2)) := by rw [hmr, hjle]; exact decide_eq_decide.2 ⟨fun g => g.2, fun g => ⟨List.getElem_mem hjl4, g⟩⟩
   refine T.skip (T.s (T.block (T.s (T.rg (TO.q (q_ix (i := j4) underlying23 inf3 rfl rfl (fun w9 hI9 => hI9.slOf (List.mem_append_right _ (part_row hRi))) hjl4 (by rw [List.length_map]; exact hjl4)) (TO.q (q_ld underlying3 rfl rfl (fun w9 hI9 => hI9.slOf (List.mem_append_right _ (part_row hRi))) (nats_get hjl4)) (TO.qa rfl (TO.nl (T.s (T.rg (TO.qm rfl (TO.qm rfl (TO.q (QT.cast (q_lookup (K := KIn) (V := Value.bool) (a := ((l[j4] : Nat) : Int)) underlying79 inf4 (KeyOk.int underlying3) rfl rfl (mG 6 rfl)) (v' := .bool (inM mr l[j4])) (by unfold inM; cases lookL ((l[j4] : Nat) : Int) mr with | none => rfl | some b => cases b <;> rfl)) (TO.q (q_not rfl) (TO.nl (T.condP (p := ¬ prN p l[j4] < mxP (prN p) (l.take j2)) (congrArg Value.bool (by rw [hin4, decide_not])) (fun hc => ?_) (fun hc => ?_)))))))))))))))))
   ·have hge75 : ¬ prN p l[j4] < mxP (prN p) (l.take j2) := hc
    refine T.rg (TO.q (q_lb 3 underlying23 rfl rfl rfl rfl) (TO.qm rfl (TO.qm rfl (TO.q (q_ix (i := l[j4]) underlying23 inf3 rfl rfl (rowO (mG 5 rfl)) hjn (by rw [List.length_map]; omega)) (TO.l rfl (l_st (j := l[j4]) (v := vI ((k3 + ((k3 + (mxP (prN p) (l.take j2))) % 2) : Nat) : Int)) (vs := [(vI ((k3 + ((k3 + (mxP (prN p) (l.take j2))) % 2) : Nat) : Int))]) (cs := nats o4) 5 inf3 rfl rfl rfl rfl rfl (by simp) rfl (by first | (simp; omega) | (simp_all; omega)) ?_))))))
    refine TO.sub (O' := ([oI gb 76 [vI ((p.next.length : Nat) : Int), (.func (.func 77) #[] #[(.pointer (aD gx))])], oI pb 25 (pC p k), oI fb 78 [(.func (.func 52) #[] #[(.pointer (aD gb)), (.pointer (aD pb)), (.pointer (aD fb)), (.pointer (aD ob))])], oI ob 23 [(.slice rb p.next.length rc)], oI gx 25 (pC p k), rowI rb rc 3 1 (nats (o4.set l[j4] (k3 + (k3 + mxP (prN p) (l.take j2)) % 2))), mapI KIn Value.bool mq2 mr, rowI ab ac 23 1 (vals ps), oI z1 79 [(.map (some m))], mapI KIn Value.bool m mm] ++ (itms 3 ps))) (by rw [show putL (nats o4) l[j4] [(vI ((k3 + ((k3 + (mxP (prN p) (l.take j2))) % 2) : Nat) : Int))] = nats (o4.set l[j4] (k3 + (k3 + mxP (prN p) (l.take j2)) % 2)) from (by simp [putL])]; exact Sub.of (List.Sublist.refl _)) ?_
    refine TO.nl (T.rg (TO.q (q_addN (a := j4) (b := 1) rfl rfl (by omega)) (TO.qm rfl (TO.nl ?_))))
    exact ⟨j4 + 1, by omega, ([oI gb 76 [vI ((p.next.length : Nat) : Int), (.func (.func 77) #[] #[(.pointer (aD gx))])], oI pb 25 (pC p k), oI fb 78 [(.func (.func 52) #[] #[(.pointer (aD gb)), (.pointer (aD pb)), (.pointer (aD fb)), (.pointer (aD ob))])], oI ob 23 [(.slice rb p.next.length rc)], oI gx 25 (pC p k), rowI rb rc 3 1 (nats (o4.set l[j4] (k3 + (k3 + mxP (prN p) (l.take j2)) % 2))), mapI KIn Value.bool mq2 mr, rowI ab ac 23 1 (vals ps), oI z1 79 [(.map (some m))], mapI KIn Value.bool m mm] ++ (itms 3 ps)), (by exact Sub.rf), o4.set l[j4] (k3 + (k3 + mxP (prN p) (l.take j2)) % 2), rfl, by omega, by simp [hol4], top_set hjl4 (by omega) hs4 hge75, (.of rfl)⟩
   have hlt75 : prN p l[j4] < mxP (prN p) (l.take j2) := Classical.not_not.1 hc
   refine T.skip (T.rg (TO.q (q_addN (a := j4) (b := 1) rfl rfl (by omega)) (TO.qm rfl (TO.nl ?_))))
   exact ⟨j4 + 1, by omega, ([oI gb 76 [vI ((p.next.length : Nat) : Int), (.func (.func 77) #[] #[(.pointer (aD gx))])], oI pb 25 (pC p k), oI fb 78 [(.func (.func 52) #[] #[(.pointer (aD gb)), (.pointer (aD pb)), (.pointer (aD fb)), (.pointer (aD ob))])], oI ob 23 [(.slice rb p.next.length rc)], oI gx 25 (pC p k), rowI rb rc 3 1 (nats o4), mapI KIn Value.bool mq2 mr, rowI ab ac 23 1 (vals ps), oI z1 79 [(.map (some m))], mapI KIn Value.bool m mm] ++ (itms 3 ps)), (by exact Sub.rf), o4, rfl, by omega, hol4, top_skip hjl4 hs4 hlt75, (.of rfl)⟩
  have hge69 : ¬ j4 < l.length := by omega
  refine T.exit ?_
  have hj4e : l.take j4 = l := List.take_of_length_le (by omega)
  refine T.rg (TO.qm rfl (TO.qm rfl (TO.q (q_maxN (a := most) (b := (k3 + ((k3 + (mxP (prN p) (l.take j2))) % 2))) rfl rfl) (TO.qa rfl (TO.nl (T.rg (TO.q (q_addN (a := i) (b := 1) rfl rfl (by omega)) (TO.qm rfl (TO.nl ?_)))))))))
  refine ⟨i + 1, by omega, ([oI gb 76 [vI ((p.next.length : Nat) : Int), (.func (.func 77) #[] #[(.pointer (aD gx))])], oI pb 25 (pC p k), oI fb 78 [(.func (.func 52) #[] #[(.pointer (aD gb)), (.pointer (aD pb)), (.pointer (aD fb)), (.pointer (aD ob))])], oI ob 23 [(.slice rb p.next.length rc)], rowI rb rc 3 1 (nats o4), rowI ab ac 23 1 (vals ps), oI gx 25 (pC p k), oI z1 79 [(.map (some m))], mapI KIn Value.bool m mm] ++ (itms 3 ps)), (by exact Sub.k (.k (.k (.k (.pull [oI gx 25 (pC p k)] _ (.pull [oI gx 25 (pC p k), mapI KIn Value.bool mq2 mr] _ (.k (.d (.k (.k .rf)))))))))), o4, max most (k3 + (k3 + mxP (prN p) (l.take j2)) % 2), rfl, by omega, by omega, hol4, ?_, (.of rfl)⟩
  rw [List.take_succ_eq_append_getElem hil, hle]
  rw [hj4e] at hs4
  exact hRI.step hdj (show IsMax (prN p) (fun u => u ∈ l) (mxP (prN p) (l.take j2)) by rw [hj2e]; exact hmxl) (by rw [← hrest2]; exact hrE.red) (fun v hv => hrE.out v (fun g => hv ((hmr2 v).1 g))) (by rw [← hrest2]; exact hrE.max) hs4
 have hge23 : ¬ i < ps.length := by omega
 refine T.exit ?_
 refine T.s (T.rg (TO.qm rfl (TO.qa rfl (TO.nl (T.ret (Res.drop ?_))))))
 refine Res.one (vI ((most : Nat) : Int)) Tryd.results52 rfl ?_
 have hie : all.take i = all := List.take_of_length_le (by omega)
 rw [hie] at hRI
 exact ⟨[oI gb 76 [vI ((p.next.length : Nat) : Int), (.func (.func 77) #[] #[(.pointer (aD gx))])], oI pb 25 (pC p k), oI fb 78 [(.func (.func 52) #[] #[(.pointer (aD gb)), (.pointer (aD pb)), (.pointer (aD fb)), (.pointer (aD ob))])], oI ob 23 [(.slice rb p.next.length rc)], oI gx 25 (pC p k), rowI rb rc 3 1 (nats o2), mapI KIn Value.bool m mm], (by exact Sub.k (.k (.k (.k (.pull [rowI rb rc 3 1 (nats o2), rowI ab ac 23 1 (vals ps)] _ (.k (.d (.d (.k .z))))))))), o2, most, rfl, rfl, hol2, hRI.done hpo hS h0⟩
end Go.Proofs.YtnikhiohindggaaDoor


namespace Go.Proofs.YtnikhiohindggaaDoor
open Go.Lx Go.RowKit _root_.Go.Proofs.Tryd
theorem parRd (w : World) [Tab Tryd.prog w] (p : Par) (k : DK) (h : AtP w p k) (hB : ParC p) :
  PureT Tryd.prog 25 [pV p k] w fun v N => ∃ k9 : DK, v = .tuple #[pV (rdV p) k9, vI (checkP p : Int)] ∧ N = [pI 23 3 (rdV p) k9] := by
 refine CallT.enter func25 rfl ntmps25 rfl ?_
 have hBn := hB.n; have hBf := hB.f
 refine T.s (T.rg (TO.l rfl (l_box (v := (pV p k)) (cs := (pC p k)) rfl rfl (fun z1 => ?_))))
 refine TO.l rfl (l_alloc inf25 rfl (fun z2 => ?_))
 refine TO.qa rfl (TO.nl (T.s (T.s (T.rg (TO.q (q_la 1 underlying25 rfl inf25 rfl rfl rfl) ?_)))))
 have hk11 := fun (w1 : World) (hI : Inv w [oI z2 25 [(vI 0), (vI 0), nS, nS], oI z1 25 (pC p k)] w1) => (haveI := Inv.tab (P := Tryd.prog) hI; parCheck w1 p k (hI.atQ h) hB)
 refine TO.l rfl (l_call ent20 (CallT.op hk11) rfl ?_)
 clear hk11
 rintro vr O' ⟨N, rfl, rfl, rfl⟩
 refine TO.qa rfl (TO.nl (T.s (T.rg (TO.qm rfl (TO.q (q_neq rfl rfl) (TO.nl (T.condP rfl (fun hc => ?_) (fun hc => ?_))))))))
 ·have hlt13 : checkP p ≠ 0 := by omega
  refine T.s ?_
  refine T.nilP 23 3 ?_
  refine T.rg (TO.q (q_build plan25 inf25 rfl) (TO.qm rfl (TO.l rfl (l_sb (v := (.agg #[(vI 0), (vI 0), nS, nS])) (vs := [(vI 0), (vI 0), nS, nS]) 1 inf25 rfl rfl rfl rfl rfl rfl (by simp [putL]) ?_))))
  refine TO.qa rfl (TO.nl (T.ret (Res.drop ?_)))
  refine Res.cell1b (vI (checkP p : Int)) (i := 1) Tryd.results25 underlying25 rfl inf25 rfl rfl rfl rfl ?_
  rw [rdV_no (by omega)]
  exact ⟨[pI 23 3 noP k00], (by exact Sub.k .z), k00, rfl, rfl⟩
 have hge13 : ¬ checkP p ≠ 0 := by omega
 have he0 : checkP p = 0 := by omega
 have hv : ValidP p := checkP_zero.1 he0
 have hn4 := hv.n4
 refine T.skip (T.s (T.rg (TO.q (q_fa underlying25 rfl inf22 rfl rfl) (TO.q (q_lb 1 underlying22 rfl rfl rfl rfl) (TO.q (q_len underlying22 rfl) (TO.l rfl (l_makeSlice (m := p.next.length) underlying23 inf3 rfl rfl (by omega) (by omega) (fun z3 => ?_))))))))
 refine TO.l rfl (l_alloc inf23 rfl (fun z4 => ?_))
 refine TO.l rfl (l_sb (v := (.slice (aD z3) p.next.length p.next.length)) (vs := [(.slice (aD z3) p.next.length p.next.length)]) 0 inf23 rfl rfl rfl rfl rfl rfl (by simp [putL]) ?_)
 refine TO.nl (T.s (T.rg (TO.q (q_la 3 underlying25 rfl inf25 rfl rfl rfl) ?_)))
 have hk21 := fun (w1 : World) (hI : Inv w [oI z4 23 [(.slice (aD z3) p.next.length p.next.length)], rowI (aD z3) p.next.length 3 1 (List.replicate p.next.length (vI 0)), oI z2 25 [(vI 0), (vI 0), nS, nS], oI z1 25 (pC p k)] w1) => (haveI := Inv.tab (P := Tryd.prog) hI; ofC w1 p k)
 refine TO.l rfl (l_call ent51 (CallT.op hk21) rfl ?_)
 clear hk21
 rintro vr O' ⟨N, rfl, gx, rfl, rfl⟩
 refine TO.l rfl (l_alloc inf76 rfl (fun z5 => ?_))
 refine TO.l rfl (l_sb (v := (.agg #[vI ((p.next.length : Nat) : Int), (.func (.func 77) #[] #[(.pointer (aD gx))])])) (vs := [vI ((p.next.length : Nat) : Int), (.func (.func 77) #[] #[(.pointer (aD gx))])]) 0 inf76 rfl rfl rfl rfl rfl rfl (by simp [putL]) ?_)
 refine TO.nl (T.s (T.rg (TO.l rfl (l_alloc inf78 rfl (fun z6 => ?_)))))
 refine TO.nl (T.s (T.rg (TO.q (q_makeFunc) (TO.l rfl (l_sb (v := (.func (.func 52) #[] #[(.pointer (aD z5)), (.pointer (aD z1)), (.pointer (aD z6)), (.pointer (aD z4))])) (vs := [(.func (.func 52) #[] #[(.pointer (aD z5)), (.pointer (aD z1)), (.pointer (aD z6)), (.pointer (aD z4))])]) 0 inf78 rfl rfl rfl rfl rfl rfl (by simp [putL]) ?_)))))
 refine TO.nl (T.s (T.rg (TO.l rfl (l_makeMap KIn Value.bool (fun mq7 => ?_)))))
 refine TO.qa rfl (TO.nl (T.s (T.s (T.rg (TO.q (q_fa underlying25 rfl inf22 rfl rfl) (TO.q (q_lb 7 underlying22 rfl rfl rfl rfl) (TO.q (q_len underlying22 rfl) (TO.qm rfl (TO.nl (T.block ?_))))))))))
 refine T.loopS (fun (s : Nat) ρ O => ∃ (mm : List (Int × Bool)), O = [mapI KIn Value.bool mq7 mm, oI z6 78 [(.func (.func 52) #[] #[(.pointer (aD z5)), (.pointer (aD z1)), (.pointer (aD z6)), (.pointer (aD z4))])], oI z5 76 [vI ((p.next.length : Nat) : Int), (.func (.func 77) #[] #[(.pointer (aD gx))])], oI gx 25 (pC p k), oI z4 23 [(.slice (aD z3) p.next.length p.next.length)], rowI (aD z3) p.next.length 3 1 (List.replicate p.next.length (vI 0)), oI z2 25 [(vI 0), (vI 0), nS, nS], oI z1 25 (pC p k)] ∧ s ≤ p.next.length ∧ (∀ u, inM mm u = decide (u < s)) ∧ Heads [(0, (pV p k)), (1, (.pointer (aD z1))), (2, (.pointer (aD z2))), (3, vI 0), (4, vI (checkP p : Int)), (5, (.pointer (aD z4))), (6, (.pointer (aD z5))), (7, (.pointer (aD z6))), (8, (.map (some mq7))), (26, vI (p.next.length : Int)), (27, vI ((s : Nat) : Int))] ρ) (fun s => p.next.length - s) 0 ?_ ?_
 ·exact ⟨[], rfl, Nat.zero_le _, (fun u => by simp [inM_nil]), (.of rfl)⟩
 rintro s ρ O ⟨mm, rfl, hs, hmm, hH⟩
 obtain ⟨ρ0, rfl⟩ := hH.elim
 clear hH
 refine T.s (T.rg (TO.q (q_lss rfl rfl) (TO.nl (T.s (T.condP rfl (fun hc => ?_) (fun hc => ?_))))))
 ·have hlt28 : s < p.next.length := by omega
  refine T.skip (T.s (T.block (T.s (T.rg (TO.qm rfl (TO.qa rfl (TO.nl (T.rg (TO.qm rfl (TO.qm rfl (TO.l rfl (l_mapPutA (K := KIn) (V := Value.bool) (a := ((s : Nat) : Int)) (v := true) 0 underlying79 (KeyOk.int underlying3) (sbY _) rfl rfl rfl rfl ?_))))))))))))
  refine TO.nl (T.rg (TO.q (q_addN (a := s) (b := 1) rfl rfl (by omega)) (TO.qm rfl (TO.nl ?_))))
  exact ⟨s + 1, by omega, [mapI KIn Value.bool mq7 (putA ((s : Nat) : Int) true mm), oI z6 78 [(.func (.func 52) #[] #[(.pointer (aD z5)), (.pointer (aD z1)), (.pointer (aD z6)), (.pointer (aD z4))])], oI z5 76 [vI ((p.next.length : Nat) : Int), (.func (.func 77) #[] #[(.pointer (aD gx))])], oI gx 25 (pC p k), oI z4 23 [(.slice (aD z3) p.next.length p.next.length)], rowI (aD z3) p.next.length 3 1 (List.replicate p.next.length (vI 0)), oI z2 25 [(vI 0), (vI 0), nS, nS], oI z1 25 (pC p k)], (by exact Sub.rf), putA ((s : Nat) : Int) true mm, rfl, by omega, inM_lt hmm, (.of rfl)⟩
 have hge28 : ¬ s < p.next.length := by omega
 refine T.exit ?_
 refine T.s ?_
 have hse : s = p.next.length := by omega
 have hS0 : ∀ u, inM mm u = true → u < p.next.length := fun u hu => by rw [hmm u] at hu; have := of_decide_eq_true hu; omega
 refine T.sub (O' := [mapI KIn Value.bool mq7 mm, oI z6 78 [(.func (.func 52) #[] #[(.pointer (aD z5)), (.pointer (aD z1)), (.pointer (aD z6)), (.pointer (aD z4))])], oI z5 76 [vI ((p.next.length : Nat) : Int), (.func (.func 77) #[] #[(.pointer (aD gx))])], oI gx 25 (pC p k), oI z4 23 [(.slice (aD z3) p.next.length p.next.length)], rowI (aD z3) p.next.length 3 1 (nats (List.replicate p.next.length 0)), oI z2 25 [(vI 0), (vI 0), nS, nS], oI z1 25 (pC p k)]) (by rw [zeros_nats]; exact Sub.rf) ?_
 refine T.rg (TO.q (q_lb 1 underlying78 rfl rfl rfl rfl) (TO.qm rfl ?_))
 have hk35 := CallV.under (A := [oI z5 76 [vI ((p.next.length : Nat) : Int), (.func (.func 77) #[] #[(.pointer (aD gx))])], oI z1 25 (pC p k), oI z6 78 [(.func (.func 52) #[] #[(.pointer (aD z5)), (.pointer (aD z1)), (.pointer (aD z6)), (.pointer (aD z4))])], oI z4 23 [(.slice (aD z3) p.next.length p.next.length)], oI gx 25 (pC p k), rowI (aD z3) p.next.length 3 1 (nats (List.replicate p.next.length 0)), mapI KIn Value.bool mq7 mm]) (B := [oI z2 25 [(vI 0), (vI 0), nS, nS]]) (O := [mapI KIn Value.bool mq7 mm, oI z6 78 [(.func (.func 52) #[] #[(.pointer (aD z5)), (.pointer (aD z1)), (.pointer (aD z6)), (.pointer (aD z4))])], oI z5 76 [vI ((p.next.length : Nat) : Int), (.func (.func 77) #[] #[(.pointer (aD gx))])], oI gx 25 (pC p k), oI z4 23 [(.slice (aD z3) p.next.length p.next.length)], rowI (aD z3) p.next.length 3 1 (nats (List.replicate p.next.length 0)), oI z2 25 [(vI 0), (vI 0), nS, nS], oI z1 25 (pC p k)]) (CallV.of_fn (first := []) (args := [(.map (some mq7))]) (caps := [(.pointer (aD z5)), (.pointer (aD z1)), (.pointer (aD z6)), (.pointer (aD z4))]) ent52 (reduceF w p k h hv z5 z1 z6 z4 gx (aD z3) p.next.length _ mm mq7 (List.replicate p.next.length 0) rfl hS0 (by simp) (fun u _ => fn_zeros _ u))) (by exact Sub.pull [mapI KIn Value.bool mq7 mm, oI z6 78 [(.func (.func 52) #[] #[(.pointer (aD z5)), (.pointer (aD z1)), (.pointer (aD z6)), (.pointer (aD z4))])]] _ (.pull [mapI KIn Value.bool mq7 mm, oI z6 78 [(.func (.func 52) #[] #[(.pointer (aD z5)), (.pointer (aD z1)), (.pointer (aD z6)), (.pointer (aD z4))])], oI gx 25 (pC p k), oI z4 23 [(.slice (aD z3) p.next.length p.next.length)], rowI (aD z3) p.next.length 3 1 (nats (List.replicate p.next.length 0)), oI z2 25 [(vI 0), (vI 0), nS, nS]] _ (.pull [mapI KIn Value.bool mq7 mm] _ (.pull [mapI KIn Value.bool mq7 mm, oI gx 25 (pC p k)] _ (.pull [mapI KIn Value.bool mq7 mm] _ (.pull [mapI KIn Value.bool mq7 mm] _ (.k (.k .z))))))))
 refine TO.l rfl (l_callG hk35 rfl rfl ?_)
 clear hk35
 rintro vr O' ⟨A1, rfl, o2, most, rfl, rfl, hol2, hrE⟩
 obtain ⟨M, hM⟩ : ∃ m, withP p (fun s => ((fn o2 s : Nat) : Int)) = m := ⟨_, rfl⟩
 have hro : rdV p = M := (rdV_of he0 (hrE.of (fun v => ⟨hS0 v, fun hv9 => by rw [hmm v]; exact decide_eq_true (by omega)⟩))).trans hM
 refine TO.nl (T.s (T.rg (TO.q (q_la 1 underlying25 rfl inf25 rfl rfl rfl) (TO.q (q_makeFunc) ?_))))
 have hk38 := CallT.under (A := [oI z4 23 [(.slice (aD z3) p.next.length p.next.length)], rowI (aD z3) p.next.length 3 1 (nats o2)]) (B := [oI z5 76 [vI ((p.next.length : Nat) : Int), (.func (.func 77) #[] #[(.pointer (aD gx))])], oI z1 25 (pC p k), oI z6 78 [(.func (.func 52) #[] #[(.pointer (aD z5)), (.pointer (aD z1)), (.pointer (aD z6)), (.pointer (aD z4))])], oI gx 25 (pC p k), mapI KIn Value.bool mq7 mm, oI z2 25 [(vI 0), (vI 0), nS, nS]]) (O := [oI z5 76 [vI ((p.next.length : Nat) : Int), (.func (.func 77) #[] #[(.pointer (aD gx))])], oI z1 25 (pC p k), oI z6 78 [(.func (.func 52) #[] #[(.pointer (aD z5)), (.pointer (aD z1)), (.pointer (aD z6)), (.pointer (aD z4))])], oI z4 23 [(.slice (aD z3) p.next.length p.next.length)], oI gx 25 (pC p k), rowI (aD z3) p.next.length 3 1 (nats o2), mapI KIn Value.bool mq7 mm, oI z2 25 [(vI 0), (vI 0), nS, nS]]) (show CallT _ _ _ _ _ _ from by
   have h9 := withK w p k h hv [oI z4 23 [(.slice (aD z3) p.next.length p.next.length)], rowI (aD z3) p.next.length 3 1 (nats o2)] (.func (.func 55) #[] #[(.pointer (aD z4))]) (fun s => ((fn o2 s : Nat) : Int)) (fun s hs => CallV.of_fn (first := []) (args := [vI ((s : Nat) : Int)]) (caps := [(.pointer (aD z4))]) ent55 (outF w p.next.length z4 (aD z3) p.next.length o2 hol2 s hs))
   rw [hM] at h9
   exact h9) (by exact Sub.pull [oI z5 76 [vI ((p.next.length : Nat) : Int), (.func (.func 77) #[] #[(.pointer (aD gx))])], oI z1 25 (pC p k), oI z6 78 [(.func (.func 52) #[] #[(.pointer (aD z5)), (.pointer (aD z1)), (.pointer (aD z6)), (.pointer (aD z4))])]] _ (.pull [oI z5 76 [vI ((p.next.length : Nat) : Int), (.func (.func 77) #[] #[(.pointer (aD gx))])], oI z1 25 (pC p k), oI z6 78 [(.func (.func 52) #[] #[(.pointer (aD z5)), (.pointer (aD z1)), (.pointer (aD z6)), (.pointer (aD z4))])], oI gx 25 (pC p k)] _ (.k (.k (.k (.k (.k (.k .z))))))))
 refine TO.l rfl (l_call ent44 hk38 rfl ?_)
 clear hk38
 rintro vr O' ⟨A1, rfl, k1, rfl, rfl⟩
 refine TO.l rfl (l_sb (v := (pV M k1)) (vs := (pC M k1)) 8 inf25 rfl rfl rfl rfl rfl rfl (by simp [putL]) ?_)
 refine TO.qa rfl (TO.nl (T.ret (Res.drop ?_)))
 refine Res.cell1b (vI 0) (i := 8) Tryd.results25 underlying25 rfl inf25 rfl rfl rfl rfl ?_
 rw [hro, he0]
 exact ⟨[pI 23 3 M k1], (by exact Sub.k .z), k1, rfl, rfl⟩
theorem indexNo (w : World) [Tab Tryd.prog w] (b : Option Addr) (c : Nat) (l : List Nat) (h : Sl w b (nats l)) (hb : l.length < 1000000) (v : Nat) (hm : v ∉ l) :
  PureT Tryd.prog 80 [.slice b l.length c, vI ((v : Nat) : Int)] w fun r N => r = vI (-1) ∧ N = [] := by
 refine CallT.enter func80 rfl ntmps80 rfl ?_
 refine T.s (T.rg (TO.qa rfl (TO.nl (T.s (T.s (T.rg (TO.qm rfl (TO.q (q_len underlying23 rfl) (TO.qm rfl (TO.nl (T.block ?_)))))))))))
 refine T.loop (fun (i : Nat) ρ O => O = [] ∧ i ≤ l.length ∧ Heads [(0, (.slice b l.length c)), (1, vI ((v : Nat) : Int)), (7, vI (l.length : Int)), (8, vI ((i : Nat) : Int))] ρ) (fun i => l.length - i) 0 ?_ ?_
 ·exact ⟨rfl, Nat.zero_le _, ⟨rfl, rfl, rfl, rfl, trivial⟩⟩
 rintro i ρ O ⟨rfl, hi, hH⟩
 obtain ⟨ρ0, rfl⟩ := hH.elim
 clear hH
 refine T.s (T.rg (TO.q (q_lss rfl rfl) (TO.nl (T.s (T.condP rfl (fun hc => ?_) (fun hc => ?_))))))
 ·have hlt9 : i < l.length := by omega
  have hil : i < l.length := by omega
  have hne : l[i] ≠ v := fun e => hm (e ▸ List.getElem_mem hil)
  refine T.skip (T.s (T.block (T.s (T.rg (TO.qm rfl (TO.qa rfl (TO.nl (T.s (T.rg (TO.qm rfl (TO.qm rfl (TO.qm rfl (TO.q (q_ix (i := i) underlying23 inf3 rfl rfl (Sl.o h)) (TO.q (q_ld underlying3 rfl rfl (Sl.o h) nats_get) (TO.q (q_eql rfl rfl) (TO.nl (T.condP rfl (fun hc => ?_) (fun hc => ?_))))))))))))))))))
  ·have hlt16 : v = l[i] := by omega
   refine T.s (T.rg (TO.qm rfl (TO.qa rfl (TO.nl (T.ret (Res.drop ?_))))))
   refine Res.one (vI ((i : Nat) : Int)) Tryd.results80 rfl ?_
   exact absurd (show l[i] = v by omega) hne
  have hge16 : ¬ v = l[i] := by omega
  refine T.skip (T.rg (TO.q (q_addN (a := i) (b := 1) rfl rfl (by omega)) (TO.qm rfl (TO.nl ?_))))
  exact ⟨i + 1, by omega, rfl, by omega, ⟨rfl, rfl, rfl, rfl, trivial⟩⟩
 have hge9 : ¬ i < l.length := by omega
 refine T.exit ?_
 refine T.s (T.rg (TO.qa rfl (TO.nl (T.ret (Res.drop ?_)))))
 refine Res.one (vI (-1)) Tryd.results80 rfl ?_
 exact ⟨[], Sub.z, rfl, rfl⟩
theorem containsY (w : World) [Tab Tryd.prog w] (b : Option Addr) (c : Nat) (l : List Nat) (h : Sl w b (nats l)) (hb : l.length < 1000000) (v : Nat) (hm : v ∈ l) :
  PureT Tryd.prog 61 [.slice b l.length c, vI ((v : Nat) : Int)] w fun r N => r = .bool true ∧ N = [] := by
 refine CallT.enter func61 rfl ntmps61 rfl ?_
 refine T.s (T.rg (TO.qa rfl (TO.nl (T.s (T.rg (TO.qm rfl (TO.qm rfl ?_)))))))
 have hk7 := fun (w1 : World) (hI : Inv w [] w1) => (haveI := Inv.tab (P := Tryd.prog) hI; indexN w1 b c l (hI.sl h) hb v hm)
 refine TO.l rfl (l_call ent80 (CallT.op hk7) rfl ?_)
 clear hk7
 rintro vr O' ⟨N, rfl, ⟨ix9, hix, hixe, hix0, rfl⟩, rfl⟩
 refine TO.q (q_geq rfl rfl) (TO.qa rfl (TO.nl (T.ret (Res.drop ?_))))
 refine Res.one (.bool (decide (((ix9 : Nat) : Int) ≥ 0))) Tryd.results61 rfl ?_
 exact ⟨[], Sub.z, congrArg Value.bool (by simp), rfl⟩
theorem containsN0 (w : World) [Tab Tryd.prog w] (b : Option Addr) (c : Nat) (l : List Nat) (h : Sl w b (nats l)) (hb : l.length < 1000000) (v : Nat) (hm : v ∉ l) :
  PureT Tryd.prog 61 [.slice b l.length c, vI ((v : Nat) : Int)] w fun r N => r = .bool false ∧ N = [] := by
 refine CallT.enter func61 rfl ntmps61 rfl ?_
 refine T.s (T.rg (TO.qa rfl (TO.nl (T.s (T.rg (TO.qm rfl (TO.qm rfl ?_)))))))
 have hk7 := fun (w1 : World) (hI : Inv w [] w1) => (haveI := Inv.tab (P := Tryd.prog) hI; indexNo w1 b c l (hI.sl h) hb v hm)
 refine TO.l rfl (l_call ent80 (CallT.op hk7) rfl ?_)
 clear hk7
 rintro vr O' ⟨N, rfl, rfl, rfl⟩
 refine TO.q (q_geq rfl rfl) (TO.qa rfl (TO.nl (T.ret (Res.drop ?_))))
 refine Res.one (.bool (decide ((-1) ≥ 0))) Tryd.results61 rfl ?_
 exact ⟨[], Sub.z, congrArg Value.bool (by simp), rfl⟩
theorem containsN (w : World) [Tab Tryd.prog w] [Tab Tryd.prog w] (b : Option Addr) (c : Nat) (l : List Nat) (h : Sl w b (nats l)) (hb : l.length < 1000000) (v : Nat) :
  PureT Tryd.prog 61 [.slice b l.length c, vI ((v : Nat) : Int)] w fun r N => r = .bool (decide (v ∈ l)) ∧ N = [] := by
 by_cases hm : v ∈ l
 ·rw [decide_eq_true hm]; exact containsY w b c l h hb v hm
 ·rw [decide_eq_false hm]; exact containsN0 w b c l h hb v hm
theorem anyF (base : World) [Tab Tryd.prog base] (u : Nat) : CallT Tryd.prog base 84 [vI ((u : Nat) : Int)] [] (fun v O' => v = .bool (decide ((fun _ : Nat => true) u = true)) ∧ O' = []) := by
 refine CallT.enter func84 rfl ntmps84 rfl ?_
 refine T.s (T.rg (TO.qa rfl (TO.nl (T.s (T.rg (TO.qa rfl (TO.nl (T.ret ?_))))))))
 refine Res.one (.bool true) Tryd.results84 rfl ?_
 exact ⟨rfl, rfl⟩
theorem eqF4 (base : World) [Tab Tryd.prog base] (sb s u : Nat) : CallT Tryd.prog base 88 [vI ((u : Nat) : Int), (.pointer (aD sb))] [oI sb 3 [vI ((s : Nat) : Int)]] (fun v O' => v = .bool (decide ((fun u : Nat => decide (u = s)) u = true)) ∧ O' = [oI sb 3 [vI ((s : Nat) : Int)]]) := by
 refine CallT.enter func88 rfl ntmps88 rfl ?_
 refine T.s (T.rg (TO.qa rfl (TO.nl (T.s (T.rg (TO.qm rfl (TO.q (q_lb 0 underlying3 rfl rfl rfl rfl) (TO.q (q_eql rfl rfl) (TO.qa rfl (TO.nl (T.ret ?_)))))))))))
 refine Res.one (.bool (decide (((u : Nat) : Int) = ((s : Nat) : Int)))) Tryd.results88 rfl ?_
 exact ⟨congrArg Value.bool (decide_eq_decide.2 (by simp only [decide_eq_true_eq]; omega)), rfl⟩
theorem eqF5 (base : World) [Tab Tryd.prog base] (sb s u : Nat) : CallT Tryd.prog base 89 [vI ((u : Nat) : Int), (.pointer (aD sb))] [oI sb 3 [vI ((s : Nat) : Int)]] (fun v O' => v = .bool (decide ((fun u : Nat => decide (u = s)) u = true)) ∧ O' = [oI sb 3 [vI ((s : Nat) : Int)]]) := by
 refine CallT.enter func89 rfl ntmps89 rfl ?_
 refine T.s (T.rg (TO.qa rfl (TO.nl (T.s (T.rg (TO.qm rfl (TO.q (q_lb 0 underlying3 rfl rfl rfl rfl) (TO.q (q_eql rfl rfl) (TO.qa rfl (TO.nl (T.ret ?_)))))))))))
 refine Res.one (.bool (decide (((u : Nat) : Int) = ((s : Nat) : Int)))) Tryd.results89 rfl ?_
 exact ⟨congrArg Value.bool (decide_eq_decide.2 (by simp only [decide_eq_true_eq]; omega)), rfl⟩
theorem inF (base : World) [Tab Tryd.prog base] (pb : Nat) (b : Option Addr) (c : Nat) (l : List Nat) (hb : l.length < 1000000) (OO : List Lx.Item) (hS : ∀ w, Inv base ([oI pb 23 [(.slice b l.length c)]] ++ OO) w → Sl w b (nats l)) (u : Nat) :
  CallT Tryd.prog base 86 [vI ((u : Nat) : Int), (.pointer (aD pb))] ([oI pb 23 [(.slice b l.length c)]] ++ OO) (fun v O' => v = .bool (decide ((fun u : Nat => decide (u ∈ l)) u = true)) ∧ O' = [oI pb 23 [(.slice b l.length c)]] ++ OO) := by
 refine CallT.enter func86 rfl ntmps86 rfl ?_
 refine T.s (T.rg (TO.qa rfl (TO.nl (T.s (T.rg (TO.q (q_lb 0 underlying23 rfl rfl rfl rfl) (TO.qm rfl ?_)))))))
 have hk6 := fun (w1 : World) (hI : Inv base ([oI pb 23 [(.slice b l.length c)]] ++ OO) w1) => (haveI := Inv.tab (P := Tryd.prog) hI; containsN w1 b c l (hS w1 hI) hb u)
 refine TO.l rfl (l_call ent61 (CallT.op hk6) rfl ?_)
 clear hk6
 rintro vr O' ⟨N, rfl, rfl, rfl⟩
 refine TO.qa rfl (TO.nl (T.ret ?_))
 refine Res.one (.bool (decide (u ∈ l))) Tryd.results86 rfl ?_
 exact ⟨congrArg Value.bool (decide_eq_decide.2 (by simp only [decide_eq_true_eq])), rfl⟩
theorem insF (base : World) [Tab Tryd.prog base] (mb m ab : Nat) (ks : List Nat) (fal : Value) (al : Nat → Bool) (OO : List Lx.Item) (u : Nat) (hal : CallV Tryd.prog base fal [vI ((u : Nat) : Int)] OO (fun v O' => v = .bool (decide (al u = true)) ∧ O' = OO)) :
  CallT Tryd.prog base 85 [vI ((u : Nat) : Int), (.pointer (aD mb)), (.pointer (aD ab))] ([oI mb 79 [(.map (some m))], mapI KIn Value.bool m (rchM ks), oI ab 69 [fal]] ++ OO) (fun v O' => v = .bool (decide ((decide (u ∈ ks) && al u) = true)) ∧ O' = [oI mb 79 [(.map (some m))], mapI KIn Value.bool m (rchM ks), oI ab 69 [fal]] ++ OO) := by
 refine CallT.enter func85 rfl ntmps85 rfl ?_
 refine T.s (T.rg (TO.qa rfl (TO.nl (T.s (T.rg (TO.q (q_lb 0 underlying79 rfl rfl rfl rfl) (TO.qm rfl (TO.q (QT.cast (q_lookup (K := KIn) (V := Value.bool) (a := ((u : Nat) : Int)) underlying79 inf4 (KeyOk.int underlying3) rfl rfl (mG 1 rfl)) (v' := .bool (decide (u ∈ ks))) (by rw [← rchM_at ks u]; cases lookL ((u : Nat) : Int) (rchM ks) with | none => rfl | some b => cases b <;> rfl)) ?_))))))))
 by_cases h8 : u ∈ ks
 ·refine TO.q (QT.toB (q_move rfl) (decide_eq_true h8)) ?_
  refine TO.gq rfl rfl (q_lb 2 underlying69 rfl rfl rfl rfl) (TO.gq rfl rfl (q_move rfl) ?_)
  have hk11 := CallV.keepR [oI mb 79 [(.map (some m))], mapI KIn Value.bool m (rchM ks), oI ab 69 [fal]] hal
  refine TO.gd rfl rfl rfl (l_callG hk11 rfl rfl ?_)
  clear hk11
  rintro vr O' ⟨rfl, rfl⟩
  refine TO.q (q_pick1 rfl rfl) (TO.qa rfl (TO.nl (T.ret ?_)))
  refine Res.one (.bool (decide (al u = true))) Tryd.results85 rfl ?_
  exact ⟨congrArg Value.bool (decide_eq_decide.2 (by simp [h8])), rfl⟩
 refine TO.q (QT.toB (q_move rfl) (decide_eq_false h8)) (TO.pd rfl rfl (TO.pd rfl rfl (TO.pd rfl rfl (TO.q (q_pick0 rfl rfl) (TO.qa rfl (TO.nl (T.ret ?_)))))))
 refine Res.one (.bool false) Tryd.results85 rfl ?_
 exact ⟨congrArg Value.bool (show false = _ by simp [h8]), rfl⟩
end Go.Proofs.YtnikhiohindggaaDoor


namespace Go.Proofs.YtnikhiohindggaaDoor
open Go.Lx Go.RowKit _root_.Go.Proofs.Tryd
theorem textQ (w : World) [Tab Tryd.prog w] [Tab Tryd.prog w] (b : Option Addr) (c n : Nat) (l : List Nat) (hn : n = l.length) (h : Sl w b (nats l)) (hl : ∀ x ∈ l, x < 10000) (hll : l.length ≤ 64) :
  PureT Tryd.prog 58 [.slice b n c] w fun v N => v = str (txtL l) ∧ N = [] := by
 subst hn; exact textF w b c l h hl hll
theorem keyT : PairS Tryd.prog 86 ⟨"class", 3, 0, false, "", "sentinel/parity", 0⟩ ⟨"next", 9, 1, false, "", "sentinel/parity", 8⟩ := ⟨uT86, uT3, uT9, rfl, rfl, by decide, by decide, by kernel_rfl⟩
theorem parQuo0 (w : World) [Tab Tryd.prog w] (p : Par) (k : DK) (h : AtP w p k) (hB : ParC p) :
  PureT Tryd.prog 27 [pV p k] w fun v N => ∃ nb nc fb fc qs, v = .tuple #[.agg (parCells (quoV p) nb nc fb fc).toArray, vI (checkP p : Int)] ∧ N = [rowI nb nc 23 1 (vals qs), rowI fb fc 3 1 (ints (quoV p).prio)] ++ itms 3 qs ∧ nums qs = (quoV p).next := by
 refine CallT.enter func27 rfl ntmps27 rfl ?_
 have hBn := hB.n; have hBf := hB.f
 have hvl := h.rows.1
 refine T.s (T.rg (TO.l rfl (l_box (v := (pV p k)) (cs := (pC p k)) rfl rfl (fun z1 => ?_))))
 refine TO.l rfl (l_alloc inf25 rfl (fun z2 => ?_))
 refine TO.qa rfl (TO.nl (T.s (T.s (T.rg (TO.q (q_la 1 uT25 rfl inf25 rfl rfl rfl) ?_)))))
 have hk27 := fun (w1 : World) (hI : Inv w [oI z2 25 [(vI 0), (vI 0), nS, nS], oI z1 25 (pC p k)] w1) => (haveI := tbz hI; parCheck w1 p k (hI.atQ h) hB)
 refine TO.l rfl (l_call ent20 (CallT.op hk27) rfl ?_)
 clear hk27
 rintro vr O' ⟨N, rfl, rfl, rfl⟩
 refine TO.qa rfl (TO.nl (T.s (T.rg (TO.qm rfl (TO.q (q_neq rfl rfl) (TO.nl (T.condP rfl (fun hc => ?_) (fun hc => ?_))))))))
 ·have hlt29 : checkP p ≠ 0 := by omega
  refine T.s (T.nilRow 23 1 (T.nilRow 3 1 ?_))
  refine T.rg (TO.q (q_build plan25 inf25 rfl) (TO.qm rfl (TO.l rfl (l_sb (v := (.agg #[(vI 0), (vI 0), nS, nS])) (vs := [(vI 0), (vI 0), nS, nS]) 2 inf25 rfl rfl rfl rfl rfl rfl (by simp [putL]) ?_))))
  refine TO.qa rfl (TO.nl (T.ret (Res.drop ?_)))
  refine Res.cell1b (vI (checkP p : Int)) (i := 2) Tryd.results27 uT25 rfl inf25 rfl rfl rfl rfl ?_
  rw [quoV_no (by omega)]
  exact ⟨[rowI none 0 23 1 [], rowI none 0 3 1 []] ++ itms 3 [], (by exact Sub.k (.k .z)), none, 0, none, 0, [], rfl, rfl, rfl⟩
 have hge29 : ¬ checkP p ≠ 0 := by omega
 have he0 : checkP p = 0 := by omega
 have hv : ValidP p := checkP_zero.1 he0
 have hn4 := hv.n4
 have h6 := hv.letN6
 refine T.skip (T.s (T.rg (TO.q (q_fa uT25 rfl inf23 rfl rfl) (TO.q (q_lb 1 uT23 rfl rfl rfl rfl) ?_))))
 have hk34 := fun (w1 : World) (hI : Inv w [oI z2 25 [(vI 0), (vI 0), nS, nS], oI z1 25 (pC p k)] w1) => (haveI := tbz hI; cloneI w1 k.fb k.fc p.prio (hI.sl h.prio) (by rw [hv.pl]; omega))
 refine TO.l rfl (l_call ent57 (CallT.op hk34) rfl ?_)
 clear hk34
 rintro vr O' ⟨N, rfl, cb0, cc0, rfl, rfl⟩
 refine TO.qa rfl (TO.nl (T.s (T.s (T.rg (TO.qa rfl (TO.nl (T.block ?_)))))))
 refine T.loopS (fun (kk : Nat) ρ O => ∃ (cb : Option Addr) (cc : Nat), O = [rowI cb cc 3 1 (nats (clsQ p kk)), oI z2 25 [(vI 0), (vI 0), nS, nS], oI z1 25 (pC p k)] ∧ Heads [(0, (pV p k)), (1, (.pointer (aD z1))), (2, (.pointer (aD z2))), (3, vI 0), (4, vI (checkP p : Int)), (5, (.slice cb p.next.length cc)), (6, vI ((cntQ p kk : Nat) : Int))] ρ) (fun kk => p.next.length + 1 - cntQ p kk) 0 ?_ ?_
 ·exact ⟨cb0, cc0, by rw [prio_cls hv]; rfl, ⟨rfl, rfl, rfl, rfl, rfl, (by rw [hv.pl]; rfl), rfl, trivial⟩⟩
 rintro kk ρ O ⟨cb, cc, rfl, hH⟩
 obtain ⟨ρ0, rfl⟩ := hH.elim
 clear hH
 have hcl := clsQ_len p kk
 have hclt := clsQ_lt hv kk
 have hnle := numQ_le p kk
 refine T.block (T.s (T.rg ?_))
 refine TO.l rfl (l_makeMap keyV (fun n : Nat => Value.int .i64 (n : Int)) (fun mq3 => ?_))
 refine TO.qa rfl (TO.nl (T.s (T.rg (TO.qm rfl (TO.q (q_len uT23 rfl) (TO.l rfl (l_makeSlice (m := p.next.length) uT23 inf3 rfl rfl (by omega) (by omega) (fun z4 => ?_))))))))
 refine TO.qa rfl (TO.nl (T.s (T.s (T.rg (TO.q (q_fa uT25 rfl inf22 rfl rfl) (TO.q (q_lb 4 uT22 rfl rfl rfl rfl) (TO.q (q_len uT22 rfl) (TO.qm rfl (TO.nl (T.block ?_))))))))))
 refine T.loopS (fun (s : Nat) ρ O => ∃ (xs : List Nat) (ks : List KeyQ), O = [rowI (aD z4) p.next.length 3 1 (nats xs), mapI keyV (fun n : Nat => Value.int .i64 (n : Int)) mq3 ks.zipIdx, rowI cb cc 3 1 (nats (clsQ p kk)), oI z2 25 [(vI 0), (vI 0), nS, nS], oI z1 25 (pC p k)] ∧ RefQ p (clsQ p kk) s xs ks ∧ Heads [(0, (pV p k)), (1, (.pointer (aD z1))), (2, (.pointer (aD z2))), (3, vI 0), (4, vI (checkP p : Int)), (5, (.slice cb p.next.length cc)), (6, vI ((cntQ p kk : Nat) : Int)), (7, (.map (some mq3))), (8, (.slice (aD z4) p.next.length p.next.length)), (40, (.slice k.nb p.next.length k.nc)), (41, vI (p.next.length : Int)), (42, vI ((s : Nat) : Int))] ρ) (fun s => p.next.length - s) 0 ?_ ?_
 ·exact ⟨List.replicate p.next.length 0, [], by rw [zeros_nats]; rfl, RefQ.start _ _, (.of rfl)⟩
 rintro s ρ O ⟨xs, ks, rfl, hR, hH⟩
 obtain ⟨ρ0, rfl⟩ := hH.elim
 clear hH
 have hxl := hR.len
 have hkf := hR.few
 have hs := hR.le
 refine T.s (T.rg (TO.q (q_lss rfl rfl) (TO.nl (T.s (T.condP rfl (fun hc => ?_) (fun hc => ?_))))))
 ·have hlt43 : s < p.next.length := by omega
  have hsn : s < p.next.length := by omega
  obtain ⟨v1, c1, g1, s1⟩ := h.rows.get hsn
  have hr1 : p.next[s].length = letN p.d := hv.val.len _ (List.getElem_mem hsn)
  refine T.skip (T.s (T.block (T.s (T.rg (TO.qm rfl (TO.q (q_ix (i := s) uT22 inf23 rfl rfl (Sl.o h.outer) hsn (hvl ▸ hsn)) (TO.q (q_ld uT23 rfl rfl (Sl.o h.outer) g1) (TO.qa rfl (TO.qa rfl (TO.nl (T.s (T.rg (TO.qm rfl (TO.q (q_len uT23 rfl) (TO.l rfl (l_makeSlice (m := p.next[s].length) uT23 inf3 rfl rfl (by omega) (by omega) (fun z5 => ?_)))))))))))))))))
  refine TO.qa rfl (TO.nl (T.s (T.s (T.rg (TO.qm rfl (TO.q (q_len uT23 rfl) (TO.qm rfl (TO.nl (T.block ?_)))))))))
  refine T.loopS (fun (x : Nat) ρ O => O = [rowI (aD z5) p.next[s].length 3 1 (nats (nCut (rowQ p (clsQ p kk) s) x)), rowI (aD z4) p.next.length 3 1 (nats xs), mapI keyV (fun n : Nat => Value.int .i64 (n : Int)) mq3 ks.zipIdx, rowI cb cc 3 1 (nats (clsQ p kk)), oI z2 25 [(vI 0), (vI 0), nS, nS], oI z1 25 (pC p k)] ∧ x ≤ letN p.d ∧ Heads [(0, (pV p k)), (1, (.pointer (aD z1))), (2, (.pointer (aD z2))), (3, vI 0), (4, vI (checkP p : Int)), (5, (.slice cb p.next.length cc)), (6, vI ((cntQ p kk : Nat) : Int)), (7, (.map (some mq3))), (8, (.slice (aD z4) p.next.length p.next.length)), (9, vI ((s : Nat) : Int)), (10, (.slice v1 p.next[s].length c1)), (11, (.slice (aD z5) p.next[s].length p.next[s].length)), (40, (.slice k.nb p.next.length k.nc)), (41, vI (p.next.length : Int)), (42, vI ((s : Nat) : Int)), (50, (.slice v1 p.next[s].length c1)), (51, vI (p.next[s].length : Int)), (52, vI ((x : Nat) : Int))] ρ) (fun x => letN p.d - x) 0 ?_ ?_
  ·exact ⟨by rw [nCut_zero, rowQ_len, hr1, zeros_nats], Nat.zero_le _, (.of rfl)⟩
  rintro x ρ O ⟨rfl, hx, hH⟩
  obtain ⟨ρ0, rfl⟩ := hH.elim
  clear hH
  have hnl := nCut_len (rowQ p (clsQ p kk) s) (x := x) (by rw [rowQ_len]; exact hx)
  rw [rowQ_len] at hnl
  refine T.s (T.rg (TO.q (q_lss rfl rfl) (TO.nl (T.s (T.condP rfl (fun hc => ?_) (fun hc => ?_))))))
  ·have hlt53 : x < p.next[s].length := by omega
   have hxl9 : x < letN p.d := by omega
   obtain ⟨hto, hxk1, hx1, _⟩ := hv.to hsn hxl9
   refine T.skip (T.s (T.block (T.s (T.rg (TO.qm rfl (TO.q (q_ix (i := x) uT23 inf3 rfl rfl (Sl.o s1) hxk1 (by rw [List.length_map]; exact hxk1)) (TO.q (q_ld uT3 rfl rfl (Sl.o s1) hx1) (TO.qa rfl (TO.qa rfl (TO.nl (T.rg (TO.qm rfl (TO.qm rfl (TO.qm rfl (TO.qm rfl (TO.q (q_ix (i := (toN p.d s x)) uT23 inf3 rfl rfl (rowO (mG 3 rfl)) hto (by rw [List.length_map]; omega)) (TO.q (q_ld uT3 rfl rfl (rowO (mG 3 rfl)) (cls_get hcl hto)) (TO.q (q_ix (i := x) uT23 inf3 rfl rfl (rowO (mG 0 rfl)) hxk1 (by rw [List.length_map]; omega)) (TO.l rfl (l_st (j := x) (v := vI (((clsQ p kk).getD (toN p.d s x) 0 : Nat) : Int)) (vs := [(vI (((clsQ p kk).getD (toN p.d s x) 0 : Nat) : Int))]) (cs := nats (nCut (rowQ p (clsQ p kk) s) x)) 0 inf3 rfl rfl rfl rfl rfl (by simp) rfl (by first | (simp; omega) | (simp_all; omega)) ?_))))))))))))))))))))
   refine TO.sub (O' := [rowI (aD z5) p.next[s].length 3 1 (nats (nCut (rowQ p (clsQ p kk) s) (x + 1))), rowI (aD z4) p.next.length 3 1 (nats xs), mapI keyV (fun n : Nat => Value.int .i64 (n : Int)) mq3 ks.zipIdx, rowI cb cc 3 1 (nats (clsQ p kk)), oI z2 25 [(vI 0), (vI 0), nS, nS], oI z1 25 (pC p k)]) (by rw [show putL (nats (nCut (rowQ p (clsQ p kk) s) x)) x [(vI (((clsQ p kk).getD (toN p.d s x) 0 : Nat) : Int))] = nats (nCut (rowQ p (clsQ p kk) s) (x + 1)) from (by rw [← nCut_set (by rw [rowQ_len]; exact hxl9) (rowQ_get hxl9)]; simp [putL])]; exact Sub.of (List.Sublist.refl _)) ?_
   refine TO.nl (T.rg (TO.q (q_addN (a := x) (b := 1) rfl rfl (by omega)) (TO.qm rfl (TO.nl ?_))))
   exact ⟨x + 1, by omega, [rowI (aD z5) p.next[s].length 3 1 (nats (nCut (rowQ p (clsQ p kk) s) (x + 1))), rowI (aD z4) p.next.length 3 1 (nats xs), mapI keyV (fun n : Nat => Value.int .i64 (n : Int)) mq3 ks.zipIdx, rowI cb cc 3 1 (nats (clsQ p kk)), oI z2 25 [(vI 0), (vI 0), nS, nS], oI z1 25 (pC p k)], (by exact Sub.rf), rfl, by omega, (.of rfl)⟩
  have hge53 : ¬ x < p.next[s].length := by omega
  refine T.exit ?_
  have hnc : nCut (rowQ p (clsQ p kk) s) x = (rowQ p (clsQ p kk) s) := by
   have h9 := nCut_end (rowQ p (clsQ p kk) s)
   rw [rowQ_len] at h9
   rw [show x = letN p.d by omega]; exact h9
  refine T.sub (O' := [rowI (aD z5) p.next[s].length 3 1 (nats (rowQ p (clsQ p kk) s)), rowI (aD z4) p.next.length 3 1 (nats xs), mapI keyV (fun n : Nat => Value.int .i64 (n : Int)) mq3 ks.zipIdx, rowI cb cc 3 1 (nats (clsQ p kk)), oI z2 25 [(vI 0), (vI 0), nS, nS], oI z1 25 (pC p k)]) (by rw [hnc]; exact Sub.rf) ?_
  refine T.cut (fun ρ O => ∃ (kT : Nat), O = [oI kT 86 [vI (((clsQ p kk).getD s 0 : Nat) : Int), (str (txtL (rowQ p (clsQ p kk) s)))], rowI (aD z5) p.next[s].length 3 1 (nats (rowQ p (clsQ p kk) s)), rowI (aD z4) p.next.length 3 1 (nats xs), mapI keyV (fun n : Nat => Value.int .i64 (n : Int)) mq3 ks.zipIdx, rowI cb cc 3 1 (nats (clsQ p kk)), oI z2 25 [(vI 0), (vI 0), nS, nS], oI z1 25 (pC p k)] ∧ Heads [(0, (pV p k)), (1, (.pointer (aD z1))), (2, (.pointer (aD z2))), (3, vI 0), (4, vI (checkP p : Int)), (5, (.slice cb p.next.length cc)), (6, vI ((cntQ p kk : Nat) : Int)), (7, (.map (some mq3))), (8, (.slice (aD z4) p.next.length p.next.length)), (9, vI ((s : Nat) : Int)), (10, (.slice v1 p.next[s].length c1)), (11, (.slice (aD z5) p.next[s].length p.next[s].length)), (14, (.pointer (aD kT))), (40, (.slice k.nb p.next.length k.nc)), (41, vI (p.next.length : Int)), (42, vI ((s : Nat) : Int))] ρ) ?_ ?_
  ·refine T.tree [rowI cb cc 3 1 (nats (clsQ p kk))] 9 mixed rfl (by exact Sub.d (.d (.d (.k .z)))) (fun _ _ _ h => h) ?_
   refine RO.quietT 0 rfl (by kernel_rfl) (q_move rfl) ?_
   refine RO.quietT 1 rfl (by kernel_rfl) (q_move rfl) ?_
   refine RO.quietT 2 rfl (by kernel_rfl) (q_ix (i := s) uT23 inf3 rfl rfl (rowO (mG 0 rfl)) hsn (by rw [List.length_map]; omega)) ?_
   refine RO.quietT 3 rfl (by kernel_rfl) (q_ld uT3 rfl rfl (rowO (mG 0 rfl)) (cls_get hcl hsn)) ?_
   refine RO.quietT 4 rfl (by kernel_rfl) (q_move rfl) ?_
   have hk70 := fun (w1 : World) (hI : Inv w [rowI (aD z5) p.next[s].length 3 1 (nats (rowQ p (clsQ p kk) s)), rowI (aD z4) p.next.length 3 1 (nats xs), mapI keyV (fun n : Nat => Value.int .i64 (n : Int)) mq3 ks.zipIdx, rowI cb cc 3 1 (nats (clsQ p kk)), oI z2 25 [(vI 0), (vI 0), nS, nS], oI z1 25 (pC p k)] w1) => (haveI := tbz hI; textQ w1 (aD z5) p.next[s].length p.next[s].length (rowQ p (clsQ p kk) s) (by rw [rowQ_len]; exact hr1) (hI.slOf (mG 0 rfl)) (rowQ_lt hclt s) (by rw [rowQ_len]; exact h6))
   refine RO.fork [5, 7] (by kernel_rfl) rfl ⟨⟨_, rfl, rfl, l_call ent58 (CallT.op hk70) rfl ?_⟩, ⟨_, rfl, rfl, l_alloc inf86 rfl (fun kT => ⟨by exact Sub.d (.d (.d (.d (.k .z)))), ?_⟩)⟩, trivial⟩
   ·clear hk70
    rintro vr O' ⟨N, rfl, rfl, rfl⟩
    refine ⟨by exact Sub.d (.d (.d (.k .z))), ?_⟩
    refine RO.quietT 6 rfl (by kernel_rfl) (q_build (cs := [vI (((clsQ p kk).getD s 0 : Nat) : Int), (str (txtL (rowQ p (clsQ p kk) s)))]) plan86 inf86 (by kernel_rfl)) ?_
    refine RO.fork [7] (by kernel_rfl) rfl ⟨⟨_, rfl, rfl, l_alloc inf86 rfl (fun kT => ⟨by exact Sub.d (.d (.d (.d (.k .z)))), ?_⟩)⟩, trivial⟩
    refine RO.fork [8] (by kernel_rfl) rfl ⟨⟨_, rfl, rfl, l_sb (v := (.agg #[vI (((clsQ p kk).getD s 0 : Nat) : Int), (str (txtL (rowQ p (clsQ p kk) s)))])) (vs := [vI (((clsQ p kk).getD s 0 : Nat) : Int), (str (txtL (rowQ p (clsQ p kk) s)))]) 0 inf86 rfl rfl rfl rfl rfl rfl (by simp [putL]) ⟨by exact Sub.d (.d (.d (.d (.k .z)))), ?_⟩⟩, trivial⟩
    exact RO.fin (by kernel_rfl) ⟨kT, rfl, (.of rfl)⟩ (by exact Sub.rf)
   have hk70 := fun (w1 : World) (hI : Inv w [oI kT 86 [(vI 0), (str [])], rowI (aD z5) p.next[s].length 3 1 (nats (rowQ p (clsQ p kk) s)), rowI (aD z4) p.next.length 3 1 (nats xs), mapI keyV (fun n : Nat => Value.int .i64 (n : Int)) mq3 ks.zipIdx, rowI cb cc 3 1 (nats (clsQ p kk)), oI z2 25 [(vI 0), (vI 0), nS, nS], oI z1 25 (pC p k)] w1) => (haveI := tbz hI; textQ w1 (aD z5) p.next[s].length p.next[s].length (rowQ p (clsQ p kk) s) (by rw [rowQ_len]; exact hr1) (hI.slOf (mG 1 rfl)) (rowQ_lt hclt s) (by rw [rowQ_len]; exact h6))
   refine RO.fork [5] (by kernel_rfl) rfl ⟨⟨_, rfl, rfl, l_call ent58 (CallT.op hk70) rfl ?_⟩, trivial⟩
   clear hk70
   rintro vr O' ⟨N, rfl, rfl, rfl⟩
   refine ⟨by exact Sub.d (.d (.d (.d (.k .z)))), ?_⟩
   refine RO.quietT 6 rfl (by kernel_rfl) (q_build (cs := [vI (((clsQ p kk).getD s 0 : Nat) : Int), (str (txtL (rowQ p (clsQ p kk) s)))]) plan86 inf86 (by kernel_rfl)) ?_
   refine RO.fork [8] (by kernel_rfl) rfl ⟨⟨_, rfl, rfl, l_sb (v := (.agg #[vI (((clsQ p kk).getD s 0 : Nat) : Int), (str (txtL (rowQ p (clsQ p kk) s)))])) (vs := [vI (((clsQ p kk).getD s 0 : Nat) : Int), (str (txtL (rowQ p (clsQ p kk) s)))]) 0 inf86 rfl rfl rfl rfl rfl rfl (by simp [putL]) ⟨by exact Sub.d (.d (.d (.d (.k .z)))), ?_⟩⟩, trivial⟩
   exact RO.fin (by kernel_rfl) ⟨kT, rfl, (.of rfl)⟩ (by exact Sub.rf)
  rintro ρ O ⟨kT, rfl, hH⟩
  obtain ⟨ρ0, rfl⟩ := hH.elim
  clear hH
  refine T.s (T.s (T.rg (TO.qm rfl (TO.q (q_la 0 uT86 rfl inf86 rfl rfl rfl) (TO.q (QT.cast (q_lookupOk (K := keyV) (V := (fun n : Nat => Value.int .i64 (n : Int))) (a := (keyQ p (clsQ p kk) s)) uT83 inf3 (KeyOk.pairS keyT) rfl rfl (mG 3 rfl)) (v' := .tuple #[vI ((if (keyQ p (clsQ p kk) s) ∈ ks then ix (keyQ p (clsQ p kk) s) ks else 0 : Nat) : Int), .bool (decide ((keyQ p (clsQ p kk) s) ∈ ks))]) (by rw [look_zk]; by_cases hm : (keyQ p (clsQ p kk) s) ∈ ks <;> simp [hm])) (TO.qm rfl (TO.q (q_extract (vs := _) rfl rfl) (TO.q (q_extract (vs := _) rfl rfl) (TO.qa rfl (TO.qa rfl (TO.nl (T.s (T.rg (TO.qm rfl (TO.q (q_not rfl) (TO.nl (T.condP (p := (keyQ p (clsQ p kk) s) ∉ ks) (congrArg Value.bool (by rw [decide_not])) (fun hc => ?_) (fun hc => ?_))))))))))))))))))
  ·have hk : (keyQ p (clsQ p kk) s) ∉ ks := hc
   refine T.rg (TO.qm rfl (TO.q (q_la 0 uT86 rfl inf86 rfl rfl rfl) (TO.qm rfl (TO.q (QT.cast (q_lenMap uT83 rfl (mG 3 rfl)) (v' := vI ((ks.length : Nat) : Int)) (by simp)) (TO.l rfl (l_mapPut (a := (keyQ p (clsQ p kk) s)) (v := ks.length) 3 uT83 (KeyOk.pairS keyT) rfl rfl rfl rfl (by rw [zipIdx_fst]; exact hk) ?_))))))
   refine TO.nl (T.rg (TO.qm rfl (TO.qm rfl (TO.qm rfl (TO.q (q_la 0 uT86 rfl inf86 rfl rfl rfl) (TO.q (QT.cast (q_lookup (K := keyV) (V := (fun n : Nat => Value.int .i64 (n : Int))) (a := (keyQ p (clsQ p kk) s)) uT83 inf3 (KeyOk.pairS keyT) rfl rfl (mG 3 rfl)) (v' := vI ((ks.length : Nat) : Int)) (by rw [← zip_snoc, look_zk, if_pos (by simp), ix_append_right hk]; simp [ix])) (TO.q (q_ix (i := s) uT23 inf3 rfl rfl (rowO (mG 2 rfl)) hsn (by rw [List.length_map]; omega)) (TO.l rfl (l_st (j := s) (v := vI ((ks.length : Nat) : Int)) (vs := [(vI ((ks.length : Nat) : Int))]) (cs := nats xs) 2 inf3 rfl rfl rfl rfl rfl (by simp) rfl (by first | (simp; omega) | (simp_all; omega)) ?_)))))))))
   refine TO.sub (O' := [oI kT 86 [vI (((clsQ p kk).getD s 0 : Nat) : Int), (str (txtL (rowQ p (clsQ p kk) s)))], rowI (aD z5) p.next[s].length 3 1 (nats (rowQ p (clsQ p kk) s)), rowI (aD z4) p.next.length 3 1 (nats (xs.set s ks.length)), mapI keyV (fun n : Nat => Value.int .i64 (n : Int)) mq3 (ks.zipIdx ++ [((keyQ p (clsQ p kk) s), ks.length)]), rowI cb cc 3 1 (nats (clsQ p kk)), oI z2 25 [(vI 0), (vI 0), nS, nS], oI z1 25 (pC p k)]) (by rw [show putL (nats xs) s [(vI ((ks.length : Nat) : Int))] = nats (xs.set s ks.length) from (by simp [putL])]; exact Sub.of (List.Sublist.refl _)) ?_
   refine TO.nl (T.rg (TO.q (q_addN (a := s) (b := 1) rfl rfl (by omega)) (TO.qm rfl (TO.nl ?_))))
   exact ⟨s + 1, by omega, [rowI (aD z4) p.next.length 3 1 (nats (xs.set s ks.length)), mapI keyV (fun n : Nat => Value.int .i64 (n : Int)) mq3 (ks.zipIdx ++ [((keyQ p (clsQ p kk) s), ks.length)]), rowI cb cc 3 1 (nats (clsQ p kk)), oI z2 25 [(vI 0), (vI 0), nS, nS], oI z1 25 (pC p k)], (by exact Sub.d (.d (.k (.k (.k (.k (.k .z))))))), xs.set s ks.length, ks ++ [(keyQ p (clsQ p kk) s)], by rw [zip_snoc], hR.miss hsn hk, (.of rfl)⟩
  have hk : (keyQ p (clsQ p kk) s) ∈ ks := Classical.not_not.1 hc
  refine T.skip (T.rg (TO.qm rfl (TO.qm rfl (TO.qm rfl (TO.q (q_la 0 uT86 rfl inf86 rfl rfl rfl) (TO.q (QT.cast (q_lookup (K := keyV) (V := (fun n : Nat => Value.int .i64 (n : Int))) (a := (keyQ p (clsQ p kk) s)) uT83 inf3 (KeyOk.pairS keyT) rfl rfl (mG 3 rfl)) (v' := vI ((ix (keyQ p (clsQ p kk) s) ks : Nat) : Int)) (by rw [look_zk, if_pos hk]; rfl)) (TO.q (q_ix (i := s) uT23 inf3 rfl rfl (rowO (mG 2 rfl)) hsn (by rw [List.length_map]; omega)) (TO.l rfl (l_st (j := s) (v := vI ((ix (keyQ p (clsQ p kk) s) ks : Nat) : Int)) (vs := [(vI ((ix (keyQ p (clsQ p kk) s) ks : Nat) : Int))]) (cs := nats xs) 2 inf3 rfl rfl rfl rfl rfl (by simp) rfl (by first | (simp; omega) | (simp_all; omega)) ?_)))))))))
  refine TO.sub (O' := [oI kT 86 [vI (((clsQ p kk).getD s 0 : Nat) : Int), (str (txtL (rowQ p (clsQ p kk) s)))], rowI (aD z5) p.next[s].length 3 1 (nats (rowQ p (clsQ p kk) s)), rowI (aD z4) p.next.length 3 1 (nats (xs.set s (ix (keyQ p (clsQ p kk) s) ks))), mapI keyV (fun n : Nat => Value.int .i64 (n : Int)) mq3 ks.zipIdx, rowI cb cc 3 1 (nats (clsQ p kk)), oI z2 25 [(vI 0), (vI 0), nS, nS], oI z1 25 (pC p k)]) (by rw [show putL (nats xs) s [(vI ((ix (keyQ p (clsQ p kk) s) ks : Nat) : Int))] = nats (xs.set s (ix (keyQ p (clsQ p kk) s) ks)) from (by simp [putL])]; exact Sub.of (List.Sublist.refl _)) ?_
  refine TO.nl (T.rg (TO.q (q_addN (a := s) (b := 1) rfl rfl (by omega)) (TO.qm rfl (TO.nl ?_))))
  exact ⟨s + 1, by omega, [rowI (aD z4) p.next.length 3 1 (nats (xs.set s (ix (keyQ p (clsQ p kk) s) ks))), mapI keyV (fun n : Nat => Value.int .i64 (n : Int)) mq3 ks.zipIdx, rowI cb cc 3 1 (nats (clsQ p kk)), oI z2 25 [(vI 0), (vI 0), nS, nS], oI z1 25 (pC p k)], (by exact Sub.d (.d (.k (.k (.k (.k (.k .z))))))), xs.set s (ix (keyQ p (clsQ p kk) s) ks), ks, rfl, hR.hit hsn hk, (.of rfl)⟩
 have hge43 : ¬ s < p.next.length := by omega
 refine T.exit ?_
 refine T.s (T.rg (TO.qm rfl (TO.qa rfl (TO.nl (T.s (T.s (T.rg (TO.qm rfl (TO.q (QT.cast (q_lenMap uT83 rfl (mG 1 rfl)) (v' := vI ((ks.length : Nat) : Int)) (by simp)) (TO.qm rfl (TO.q (q_eql rfl rfl) (TO.nl (T.condP rfl (fun hc => ?_) (fun hc => ?_))))))))))))))
 ·have hlt95 : ks.length = cntQ p kk := by omega
  obtain ⟨hxs, hks⟩ := hR.done (by omega)
  have hnum : ks.length = numQ p kk := by rw [hks]; rfl
  have hstop : numQ p kk = cntQ p kk := by omega
  refine T.exit ?_
  have hBis : BisB p (eqQ xs) := by rw [hxs]; exact clsQ_done hv hstop
  obtain ⟨FF, hFF⟩ : ∃ l, qN (eqQ xs) p.d p.next.length = l := ⟨_, rfl⟩
  have hst := hv.st
  refine T.sub (O' := [rowI (aD z4) p.next.length 3 1 (nats xs), oI z2 25 [(vI 0), (vI 0), nS, nS], oI z1 25 (pC p k)]) (by exact Sub.k (.d (.d (.k (.k .z))))) ?_
  refine T.cut (fun ρ O => ∃ (mN qB : Nat), O = [rowI (aD qB) 1 3 1 [vI ((p.start.toNat : Nat) : Int)], mapI KIn (fun n : Nat => Value.int .i64 (n : Int)) mN [(((xs.getD p.start.toNat 0 : Nat) : Int), (0 : Nat))], rowI (aD z4) p.next.length 3 1 (nats xs), oI z2 25 [(vI 0), (vI 0), nS, nS], oI z1 25 (pC p k)] ∧ Heads [(0, (pV p k)), (1, (.pointer (aD z1))), (2, (.pointer (aD z2))), (3, vI 0), (4, vI (checkP p : Int)), (5, (.slice (aD z4) p.next.length p.next.length)), (6, vI ((cntQ p kk : Nat) : Int)), (7, (.map (some mq3))), (8, (.slice (aD z4) p.next.length p.next.length)), (17, (.map (some mN))), (18, (.slice (aD qB) 1 1))] ρ) ?_ ?_
  ·refine T.tree [rowI (aD z4) p.next.length 3 1 (nats xs), oI z2 25 [(vI 0), (vI 0), nS, nS], oI z1 25 (pC p k)] 13 mixed rfl (by exact Sub.rf) (fun _ _ _ h => h) ?_
   refine RO.quietT 1 rfl (by kernel_rfl) (q_move rfl) ?_
   refine RO.quietT 2 rfl (by kernel_rfl) (q_fa uT25 rfl inf3 rfl rfl) ?_
   refine RO.quietT 3 rfl (by kernel_rfl) (QT.cast (q_lb 2 uT3 rfl rfl rfl rfl) (v' := vI ((p.start.toNat : Nat) : Int)) (congrArg (Value.int .i64) (Int.toNat_of_nonneg hv.val.s0).symm)) ?_
   refine RO.quietT 4 rfl (by kernel_rfl) (q_ix (i := p.start.toNat) uT23 inf3 rfl rfl (rowO (mG 0 rfl)) hst (by rw [List.length_map]; omega)) ?_
   refine RO.quietT 5 rfl (by kernel_rfl) (q_ld uT3 rfl rfl (rowO (mG 0 rfl)) (cls_get hxl hst)) ?_
   refine RO.quietT 8 rfl (by kernel_rfl) (q_fa uT25 rfl inf3 rfl rfl) ?_
   refine RO.quietT 9 rfl (by kernel_rfl) (QT.cast (q_lb 2 uT3 rfl rfl rfl rfl) (v' := vI ((p.start.toNat : Nat) : Int)) (congrArg (Value.int .i64) (Int.toNat_of_nonneg hv.val.s0).symm)) ?_
   refine RO.fork [0, 10] (by kernel_rfl) rfl ⟨⟨_, rfl, rfl, l_makeMap KIn (fun n : Nat => Value.int .i64 (n : Int)) (fun mN => ⟨by exact Sub.d (.k (.k (.k .z))), ?_⟩)⟩, ⟨_, rfl, rfl, l_build1 (v := vI ((p.start.toNat : Nat) : Int)) uT23 inf3 rfl rfl rfl (fun qB => ⟨by exact Sub.d (.k (.k (.k .z))), ?_⟩)⟩, trivial⟩
   ·refine RO.fork [6, 10] (by kernel_rfl) rfl ⟨⟨_, rfl, rfl, l_mapInsert (a := ((xs.getD p.start.toNat 0 : Nat) : Int)) (v := (0 : Nat)) 0 uT62 (KeyOk.int uT3) rfl rfl rfl rfl (by simp) ⟨by exact Sub.d (.k (.k (.k .z))), ?_⟩⟩, ⟨_, rfl, rfl, l_build1 (v := vI ((p.start.toNat : Nat) : Int)) uT23 inf3 rfl rfl rfl (fun qB => ⟨by exact Sub.d (.d (.k (.k (.k .z)))), ?_⟩)⟩, trivial⟩
    ·refine RO.quietT 7 rfl (by kernel_rfl) (q_move rfl) ?_
     refine RO.quietT 11 rfl (by kernel_rfl) (q_assign rfl) ?_
     refine RO.fork [10] (by kernel_rfl) rfl ⟨⟨_, rfl, rfl, l_build1 (v := vI ((p.start.toNat : Nat) : Int)) uT23 inf3 rfl rfl rfl (fun qB => ⟨by exact Sub.d (.d (.k (.k (.k .z)))), ?_⟩)⟩, trivial⟩
     refine RO.quietT 12 rfl (by kernel_rfl) (q_assign rfl) ?_
     exact RO.fin (by kernel_rfl) ⟨mN, qB, rfl, (.of rfl)⟩ (by exact Sub.rf)
    refine RO.fork [6] (by kernel_rfl) rfl ⟨⟨_, rfl, rfl, l_mapInsert (a := ((xs.getD p.start.toNat 0 : Nat) : Int)) (v := (0 : Nat)) 1 uT62 (KeyOk.int uT3) rfl rfl rfl rfl (by simp) ⟨by exact Sub.d (.d (.k (.k (.k .z)))), ?_⟩⟩, trivial⟩
    refine RO.quietT 7 rfl (by kernel_rfl) (q_move rfl) ?_
    refine RO.quietT 11 rfl (by kernel_rfl) (q_assign rfl) ?_
    refine RO.quietT 12 rfl (by kernel_rfl) (q_assign rfl) ?_
    exact RO.fin (by kernel_rfl) ⟨mN, qB, rfl, (.of rfl)⟩ (by exact Sub.rf)
   refine RO.fork [0] (by kernel_rfl) rfl ⟨⟨_, rfl, rfl, l_makeMap KIn (fun n : Nat => Value.int .i64 (n : Int)) (fun mN => ⟨by exact Sub.d (.d (.k (.k (.k .z)))), ?_⟩)⟩, trivial⟩
   refine RO.fork [6] (by kernel_rfl) rfl ⟨⟨_, rfl, rfl, l_mapInsert (a := ((xs.getD p.start.toNat 0 : Nat) : Int)) (v := (0 : Nat)) 0 uT62 (KeyOk.int uT3) rfl rfl rfl rfl (by simp) ⟨by exact Sub.d (.d (.k (.k (.k .z)))), ?_⟩⟩, trivial⟩
   refine RO.quietT 7 rfl (by kernel_rfl) (q_move rfl) ?_
   refine RO.quietT 11 rfl (by kernel_rfl) (q_assign rfl) ?_
   refine RO.quietT 12 rfl (by kernel_rfl) (q_assign rfl) ?_
   exact RO.fin (by kernel_rfl) ⟨mN, qB, rfl, (.of rfl)⟩ (by exact Sub.pull [mapI KIn (fun n : Nat => Value.int .i64 (n : Int)) mN [(((xs.getD p.start.toNat 0 : Nat) : Int), (0 : Nat))]] _ (.k (.k (.k (.k .z)))))
  rintro ρ O ⟨mN, qB, rfl, hH⟩
  obtain ⟨ρ0, rfl⟩ := hH.elim
  clear hH
  refine T.s (T.rg (TO.q (q_fa uT25 rfl inf3 rfl rfl) (TO.q (q_lb 4 uT3 rfl rfl rfl rfl) (TO.q (q_build (cs := [(vI p.vars), (vI 0), nS, nS]) plan25 inf25 (by kernel_rfl)) (TO.l rfl (l_alloc inf25 rfl (fun z6 => ?_)))))))
  refine TO.l rfl (l_sb (v := (.agg #[(vI p.vars), (vI 0), nS, nS])) (vs := [(vI p.vars), (vI 0), nS, nS]) 0 inf25 rfl rfl rfl rfl rfl rfl (by simp [putL]) ?_)
  refine TO.nl (T.s (T.s (T.rg (TO.qa rfl (TO.nl (T.block (T.nilRow 23 1 (T.nilRow 3 1 ?_))))))))
  refine T.sub (O' := [rowI (aD qB) 1 3 1 [vI ((p.start.toNat : Nat) : Int)], mapI KIn (fun n : Nat => Value.int .i64 (n : Int)) mN [(((xs.getD p.start.toNat 0 : Nat) : Int), (0 : Nat))], rowI none 0 23 1 [], rowI none 0 3 1 [], oI z6 25 [(vI p.vars), (vI 0), nS, nS], rowI (aD z4) p.next.length 3 1 (nats xs), oI z2 25 [(vI 0), (vI 0), nS, nS], oI z1 25 (pC p k)]) (by exact Sub.pull [rowI none 0 23 1 [], rowI none 0 3 1 [], oI z6 25 [(vI p.vars), (vI 0), nS, nS]] _ (.pull [rowI none 0 23 1 [], rowI none 0 3 1 [], oI z6 25 [(vI p.vars), (vI 0), nS, nS]] _ (.k (.k (.k (.k (.k (.k .z)))))))) ?_
  refine T.loopS (fun (i : Nat) ρ O => ∃ (lb nb fb : Option Addr) (lc nc fc : Nat) (qs : List Rec) (ls : List Nat), O = ([rowI lb lc 3 1 (nats ls), mapI KIn (fun n : Nat => Value.int .i64 (n : Int)) mN (mpQ xs ls), rowI nb nc 23 1 (vals qs), rowI fb fc 3 1 (ints ((FF.take i).map fun s => ((prN p s : Nat) : Int))), oI z6 25 [(vI p.vars), (vI 0), (.slice nb i nc), (.slice fb i fc)], rowI (aD z4) p.next.length 3 1 (nats xs), oI z2 25 [(vI 0), (vI 0), nS, nS], oI z1 25 (pC p k)] ++ (itms 3 qs)) ∧ i ≤ ls.length ∧ qs.length = i ∧ nums qs = (FF.take i).map (qRow (eqQ xs) p.d FF) ∧ ls = (qN (eqQ xs) p.d i) ∧ Heads [(0, (pV p k)), (1, (.pointer (aD z1))), (2, (.pointer (aD z2))), (3, vI 0), (4, vI (checkP p : Int)), (5, (.slice (aD z4) p.next.length p.next.length)), (6, vI ((cntQ p kk : Nat) : Int)), (7, (.map (some mq3))), (8, (.slice (aD z4) p.next.length p.next.length)), (17, (.map (some mN))), (18, (.slice lb ls.length lc)), (19, (.pointer (aD z6))), (20, vI ((i : Nat) : Int))] ρ) (fun i => p.next.length + 1 - i) 0 ?_ ?_
  ·exact ⟨_, none, none, 1, 0, 0, [], [p.start.toNat], rfl, Nat.zero_le _, rfl, rfl, rfl, (.of rfl)⟩
  rintro i ρ O ⟨lb, nb, fb, lc, nc, fc, qs, ls, rfl, hi, hql, hqs, hls, hH⟩
  obtain ⟨ρ0, rfl⟩ := hH.elim
  clear hH
  have hnl4 : ls.length ≤ p.next.length := by rw [hls]; exact qN_len hv hBis i
  refine T.s (T.s (T.rg (TO.qm rfl (TO.qm rfl (TO.q (q_len uT23 rfl) (TO.q (q_lss rfl rfl) (TO.nl (T.condP rfl (fun hc => ?_) (fun hc => ?_)))))))))
  ·have hlt114 : i < ls.length := by omega
   have hil : i < ls.length := by omega
   obtain ⟨s, hsi, hsn, hFi, hin⟩ := qN_at hv hBis (hls ▸ hil)
   rw [hFF] at hFi
   obtain ⟨v1, c1, g1, s1⟩ := h.rows.get hsn
   have hr1 : p.next[s].length = letN p.d := hv.val.len _ (List.getElem_mem hsn)
   have hgi : (nats ls)[i]? = some (vI ((s : Nat) : Int)) := by rw [List.getElem?_map, hls, hsi]; rfl
   have hsp : s < p.prio.length := by rw [hv.pl]; exact hsn
   refine T.skip (T.s (T.block (T.s ?_)))
   refine T.draws _ [(0, 0), (1, 0), (2, 0), (3, 0), (4, 0), (5, 0), (6, 0), (7, 0), (8, 0), (9, 2), (10, 2)] mixed (by kernel_rfl) (Sub.of (List.Sublist.refl _)) (fun _ _ _ h => h) ?_
   refine DO.q rfl (q_fa uT25 rfl inf22 rfl rfl) (DO.q rfl (q_lb 7 uT22 rfl rfl rfl rfl) (DO.q rfl (q_move rfl) (DO.q rfl (q_move rfl) (DO.q rfl (q_ix (i := i) uT23 inf3 rfl rfl (rowO (mG 0 rfl)) hil (by rw [List.length_map]; exact hil)) (DO.q rfl (q_ld uT3 rfl rfl (rowO (mG 0 rfl)) hgi) (DO.q rfl (q_ix (i := s) uT22 inf23 rfl rfl (Sl.o h.outer) hsn (hvl ▸ hsn)) (DO.q rfl (q_ld uT23 rfl rfl (Sl.o h.outer) g1) (DO.q rfl (q_len uT23 rfl) ?_))))))))
   refine DO.last rfl rfl (l_makeSlice (m := p.next[s].length) uT23 inf3 rfl rfl (by omega) (by omega) (fun z7 => ?_))
   refine DO.last rfl rfl (LT.oq rfl rfl (q_assign rfl) ?_)
   refine DO.done ?_
   refine T.s (T.s ?_)
   refine T.draws _ [(0, 0), (1, 0), (2, 0), (3, 0), (4, 0), (5, 0), (6, 0), (7, 0), (8, 0), (9, 0)] mixed (by kernel_rfl) (Sub.of (List.Sublist.refl _)) (fun _ _ _ h => h) ?_
   refine DO.q rfl (q_fa uT25 rfl inf22 rfl rfl) (DO.q rfl (q_lb 8 uT22 rfl rfl rfl rfl) (DO.q rfl (q_move rfl) (DO.q rfl (q_move rfl) (DO.q rfl (q_ix (i := i) uT23 inf3 rfl rfl (rowO (mG 1 rfl)) hil (by rw [List.length_map]; exact hil)) (DO.q rfl (q_ld uT3 rfl rfl (rowO (mG 1 rfl)) hgi) (DO.q rfl (q_ix (i := s) uT22 inf23 rfl rfl (Sl.o h.outer) hsn (hvl ▸ hsn)) (DO.q rfl (q_ld uT23 rfl rfl (Sl.o h.outer) g1) (DO.q rfl (q_len uT23 rfl) (DO.q rfl (q_move rfl) ?_)))))))))
   refine DO.done ?_
   refine T.block ?_
   have hz9 : ints (qCut (eqQ xs) p.d FF s 0) = List.replicate p.next[s].length (vI 0) := by rw [qCut_zero, hr1]; simp
   refine T.loopS (fun (x : Nat) ρ O => ∃ (lb : Option Addr) (lc : Nat) (ms : List Nat), O = ([rowI (aD z7) p.next[s].length 3 1 (ints (qCut (eqQ xs) p.d FF s x)), rowI lb lc 3 1 (nats ms), mapI KIn (fun n : Nat => Value.int .i64 (n : Int)) mN (mpQ xs ms), rowI nb nc 23 1 (vals qs), rowI fb fc 3 1 (ints ((FF.take i).map fun s => ((prN p s : Nat) : Int))), oI z6 25 [(vI p.vars), (vI 0), (.slice nb i nc), (.slice fb i fc)], rowI (aD z4) p.next.length 3 1 (nats xs), oI z2 25 [(vI 0), (vI 0), nS, nS], oI z1 25 (pC p k)] ++ (itms 3 qs)) ∧ x ≤ letN p.d ∧ ms = (qM (eqQ xs) p.d (qN (eqQ xs) p.d i) s x) ∧ Heads [(0, (pV p k)), (1, (.pointer (aD z1))), (2, (.pointer (aD z2))), (3, vI 0), (4, vI (checkP p : Int)), (5, (.slice (aD z4) p.next.length p.next.length)), (6, vI ((cntQ p kk : Nat) : Int)), (7, (.map (some mq3))), (8, (.slice (aD z4) p.next.length p.next.length)), (17, (.map (some mN))), (18, (.slice lb ms.length lc)), (19, (.pointer (aD z6))), (20, vI ((i : Nat) : Int)), (21, (.slice (aD z7) p.next[s].length p.next[s].length)), (134, (.slice v1 p.next[s].length c1)), (135, vI (p.next[s].length : Int)), (136, vI ((x : Nat) : Int))] ρ) (fun x => letN p.d - x) 0 ?_ ?_
   ·exact ⟨lb, lc, ls, by rw [hz9]; rfl, Nat.zero_le _, hls, (.of rfl)⟩
   rintro x ρ O ⟨lb, lc, ms, rfl, hx, hms, hH⟩
   obtain ⟨ρ0, rfl⟩ := hH.elim
   clear hH
   have hcq := qCut_len (e := (eqQ xs)) (F := FF) (s := s) hx
   have hpre := qM_fin hv hBis hsi hx
   have hml := hpre.length_le
   rw [← hms] at hml
   have hfl := qN_len hv hBis p.next.length
   refine T.s (T.rg (TO.q (q_lss rfl rfl) (TO.nl (T.s (T.condP rfl (fun hc => ?_) (fun hc => ?_))))))
   ·have hlt137 : x < p.next[s].length := by omega
    have hxl9 : x < letN p.d := by omega
    obtain ⟨hto, hxk1, hx1, _⟩ := hv.to hsn hxl9
    refine T.skip (T.s (T.block (T.s (T.rg (TO.qm rfl (TO.q (q_ix (i := x) uT23 inf3 rfl rfl (Sl.o s1) hxk1 (by rw [List.length_map]; exact hxk1)) (TO.q (q_ld uT3 rfl rfl (Sl.o s1) hx1) (TO.qa rfl (TO.qa rfl (TO.nl (T.s (T.rg (TO.qm rfl (TO.qm rfl (TO.qm rfl (TO.q (q_ix (i := (toN p.d s x)) uT23 inf3 rfl rfl (rowO (mG 6 rfl)) hto (by rw [List.length_map]; omega)) (TO.q (q_ld uT3 rfl rfl (rowO (mG 6 rfl)) (cls_get hxl hto)) (TO.q (QT.cast (q_lookupOk (K := KIn) (V := (fun n : Nat => Value.int .i64 (n : Int))) (a := ((xs.getD (toN p.d s x) 0 : Nat) : Int)) uT62 inf3 (KeyOk.int uT3) rfl rfl (mG 2 rfl)) (v' := .tuple #[vI ((if (ms.any fun k => eqQ xs k (toN p.d s x)) = true then qfind (eqQ xs) (toN p.d s x) ms else 0 : Nat) : Int), .bool (ms.any fun k => eqQ xs k (toN p.d s x))]) (by rw [mpQ_look]; by_cases h9 : (ms.any fun k => eqQ xs k (toN p.d s x)) = true <;> simp [h9])) (TO.qm rfl (TO.q (q_extract (vs := _) rfl rfl) (TO.q (q_extract (vs := _) rfl rfl) (TO.qa rfl (TO.qa rfl (TO.nl (T.s (T.s (T.rg ?_)))))))))))))))))))))))))))
    refine TO.qm rfl (TO.q (q_not rfl) (TO.nl (T.condP (p := ¬ (ms.any fun k => eqQ xs k (toN p.d s x)) = true) (congrArg Value.bool (by cases (ms.any fun k => eqQ xs k (toN p.d s x)) <;> rfl)) (fun hc => ?_) (fun hc => ?_))))
    ·have hnew : ¬ (ms.any fun k => eqQ xs k (toN p.d s x)) = true := hc
     have hnw := qfind_new hv hBis hsi hxl9 (by rw [← hms]; exact hnew)
     rw [← hms, hFF] at hnw
     refine T.s (T.rg (TO.qm rfl (TO.q (q_len uT23 rfl) (TO.qa rfl (TO.nl ?_)))))
     refine T.draws [rowI (aD z4) p.next.length 3 1 (nats xs)] [(0, 0), (1, 0), (2, 0), (3, 0), (4, 0), (5, 0), (6, 0), (7, 0), (8, 1), (9, 1), (10, 1), (11, 0), (12, 2), (13, 2)] mixed (drawF_ok (by kernel_rfl)) (by exact Sub.d (.d (.d (.d (.d (.d (.k .z))))))) (fun _ _ _ h => h) ?_
     refine DO.q rfl (q_move rfl) (DO.q rfl (q_move rfl) (DO.q rfl (q_move rfl) (DO.q rfl (q_ix (i := (toN p.d s x)) uT23 inf3 rfl rfl (rowO (mG 0 rfl)) hto (by rw [List.length_map]; omega)) (DO.q rfl (q_ld uT3 rfl rfl (rowO (mG 0 rfl)) (cls_get hxl hto)) (DO.q rfl (q_move rfl) (DO.q rfl (q_move rfl) (DO.q rfl (q_move rfl) ?_)))))))
     refine DO.loud rfl rfl (l_build1 (v := vI ((toN p.d s x : Nat) : Int)) uT23 inf3 rfl rfl rfl (fun z8 => ⟨by exact Sub.d (.d (.d (.d (.d (.d (.d (.k .z))))))), ?_⟩))
     refine DO.loud rfl rfl (l_append 2 uT23 uT23 inf3 rfl rfl rfl rfl (by simp) (by decide) (Src.row (j := 0) rfl (by simp)) (by simp [oneB]) (by omega) (by decide) (by decide) (fun z9 zc10 => ⟨by exact Sub.d (.d (.d (.d (.d (.d (.d (.k .z))))))), ?_⟩))
     refine DO.loud rfl rfl (l_mapEntry (K := KIn) (V := (fun n : Nat => Value.int .i64 (n : Int))) (a := ((xs.getD (toN p.d s x) 0 : Nat) : Int)) (z := vI 0) 3 uT62 inf3 (KeyOk.int uT3) rfl rfl rfl (mpQ_new hnew) (fun ck => ⟨by exact Sub.d (.d (.d (.d (.d (.d (.d (.k .z))))))), ?_⟩))
     refine DO.q rfl (q_extract (vs := _) rfl rfl) ?_
     refine DO.last rfl rfl (l_entryStore (K := KIn) (V := (fun n : Nat => Value.int .i64 (n : Int))) (v := ms.length) 3 rfl rfl rfl rfl ?_)
     refine DO.last rfl rfl (LT.oq rfl rfl (q_assign rfl) ?_)
     refine DO.done ?_
     refine T.rg (TO.qm rfl (TO.qm rfl (TO.qm rfl (TO.q (q_ix (i := x) uT23 inf3 rfl rfl (rowO (mG 1 rfl)) hxk1 (by rw [List.length_map, hcq]; exact hxl9)) (TO.l rfl (l_st (j := x) (v := vI (ms.length : Int)) (vs := [(vI (ms.length : Int))]) (cs := ints (qCut (eqQ xs) p.d FF s x)) 1 inf3 rfl rfl rfl rfl rfl (by simp) rfl (by first | (simp; omega) | (simp_all; omega)) ?_))))))
     refine TO.sub (O' := ([rowI (aD z8) 1 3 1 [vI ((toN p.d s x : Nat) : Int)], rowI (aD z7) p.next[s].length 3 1 (ints (qCut (eqQ xs) p.d FF s (x + 1))), rowI z9 zc10 3 1 ((nats ms) ++ [vI ((toN p.d s x : Nat) : Int)]), mapI KIn (fun n : Nat => Value.int .i64 (n : Int)) mN (mpQ xs ms ++ [(((xs.getD (toN p.d s x) 0 : Nat) : Int), ms.length)]), rowI nb nc 23 1 (vals qs), rowI fb fc 3 1 (ints ((FF.take i).map fun s => ((prN p s : Nat) : Int))), oI z6 25 [(vI p.vars), (vI 0), (.slice nb i nc), (.slice fb i fc)], rowI (aD z4) p.next.length 3 1 (nats xs), oI z2 25 [(vI 0), (vI 0), nS, nS], oI z1 25 (pC p k)] ++ (itms 3 qs))) (by rw [show putL (ints (qCut (eqQ xs) p.d FF s x)) x [(vI (ms.length : Int))] = ints (qCut (eqQ xs) p.d FF s (x + 1)) from (by rw [← qCut_set hxl9 hnw.2]; simp [putL])]; exact Sub.of (List.Sublist.refl _)) ?_
     refine TO.nl (T.rg (TO.q (q_addN (a := x) (b := 1) rfl rfl (by omega)) (TO.qm rfl (TO.nl ?_))))
     exact ⟨x + 1, by omega, ([rowI (aD z7) p.next[s].length 3 1 (ints (qCut (eqQ xs) p.d FF s (x + 1))), rowI z9 zc10 3 1 ((nats ms) ++ [vI ((toN p.d s x : Nat) : Int)]), mapI KIn (fun n : Nat => Value.int .i64 (n : Int)) mN (mpQ xs ms ++ [(((xs.getD (toN p.d s x) 0 : Nat) : Int), ms.length)]), rowI nb nc 23 1 (vals qs), rowI fb fc 3 1 (ints ((FF.take i).map fun s => ((prN p s : Nat) : Int))), oI z6 25 [(vI p.vars), (vI 0), (.slice nb i nc), (.slice fb i fc)], rowI (aD z4) p.next.length 3 1 (nats xs), oI z2 25 [(vI 0), (vI 0), nS, nS], oI z1 25 (pC p k)] ++ (itms 3 qs)), (by exact Sub.d (.k (.k (.k (.k (.k (.k (.k (.k (.k .rf)))))))))), z9, zc10, ms ++ [toN p.d s x], by rw [mpQ_snoc]; simp only [List.map_append, List.map_cons, List.map_nil], by omega, hnw.1.symm, ⟨rfl, rfl, rfl, rfl, rfl, rfl, rfl, rfl, rfl, rfl, (congrArg (fun n9 => Value.slice z9 n9 zc10) (@List.length_append _ ms [toN p.d s x]).symm), rfl, rfl, rfl, rfl, rfl, rfl, trivial⟩⟩
    have hold : (ms.any fun k => eqQ xs k (toN p.d s x)) = true := Classical.not_not.1 hc
    have hold2 : ((qM (eqQ xs) p.d (qN (eqQ xs) p.d i) s x).any fun k => eqQ xs k (toN p.d s x)) = true := by rw [← hms]; exact hold
    have hnw := qfind_old hv hBis hsi hxl9 hold2
    rw [← hms, hFF] at hnw
    have hnw2 : qfind (eqQ xs) (toN p.d s x) FF = (if (ms.any fun k => eqQ xs k (toN p.d s x)) = true then qfind (eqQ xs) (toN p.d s x) ms else 0) := by rw [if_pos hold]; exact hnw.2
    refine T.skip (T.rg (TO.qm rfl (TO.qm rfl (TO.qm rfl (TO.q (q_ix (i := x) uT23 inf3 rfl rfl (rowO (mG 0 rfl)) hxk1 (by rw [List.length_map, hcq]; exact hxl9)) (TO.l rfl (l_st (j := x) (v := vI ((if (ms.any fun k => eqQ xs k (toN p.d s x)) = true then qfind (eqQ xs) (toN p.d s x) ms else 0 : Nat) : Int)) (vs := [(vI ((if (ms.any fun k => eqQ xs k (toN p.d s x)) = true then qfind (eqQ xs) (toN p.d s x) ms else 0 : Nat) : Int))]) (cs := ints (qCut (eqQ xs) p.d FF s x)) 0 inf3 rfl rfl rfl rfl rfl (by simp) rfl (by first | (simp; omega) | (simp_all; omega)) ?_)))))))
    refine TO.sub (O' := ([rowI (aD z7) p.next[s].length 3 1 (ints (qCut (eqQ xs) p.d FF s (x + 1))), rowI lb lc 3 1 (nats ms), mapI KIn (fun n : Nat => Value.int .i64 (n : Int)) mN (mpQ xs ms), rowI nb nc 23 1 (vals qs), rowI fb fc 3 1 (ints ((FF.take i).map fun s => ((prN p s : Nat) : Int))), oI z6 25 [(vI p.vars), (vI 0), (.slice nb i nc), (.slice fb i fc)], rowI (aD z4) p.next.length 3 1 (nats xs), oI z2 25 [(vI 0), (vI 0), nS, nS], oI z1 25 (pC p k)] ++ (itms 3 qs))) (by rw [show putL (ints (qCut (eqQ xs) p.d FF s x)) x [(vI ((if (ms.any fun k => eqQ xs k (toN p.d s x)) = true then qfind (eqQ xs) (toN p.d s x) ms else 0 : Nat) : Int))] = ints (qCut (eqQ xs) p.d FF s (x + 1)) from (by rw [← qCut_set hxl9 hnw2]; simp [putL])]; exact Sub.of (List.Sublist.refl _)) ?_
    refine TO.nl (T.rg (TO.q (q_addN (a := x) (b := 1) rfl rfl (by omega)) (TO.qm rfl (TO.nl ?_))))
    exact ⟨x + 1, by omega, ([rowI (aD z7) p.next[s].length 3 1 (ints (qCut (eqQ xs) p.d FF s (x + 1))), rowI lb lc 3 1 (nats ms), mapI KIn (fun n : Nat => Value.int .i64 (n : Int)) mN (mpQ xs ms), rowI nb nc 23 1 (vals qs), rowI fb fc 3 1 (ints ((FF.take i).map fun s => ((prN p s : Nat) : Int))), oI z6 25 [(vI p.vars), (vI 0), (.slice nb i nc), (.slice fb i fc)], rowI (aD z4) p.next.length 3 1 (nats xs), oI z2 25 [(vI 0), (vI 0), nS, nS], oI z1 25 (pC p k)] ++ (itms 3 qs)), (by exact Sub.rf), lb, lc, ms, rfl, by omega, hnw.1.symm, (.of rfl)⟩
   have hge137 : ¬ x < p.next[s].length := by omega
   refine T.exit ?_
   have hpre0 : (qN (eqQ xs) p.d i) <+: ms := by rw [hms]; exact qM_pre (eqQ xs) p.d (qN (eqQ xs) p.d i) s (Nat.zero_le x)
   have hMl : i < ms.length := by have h9 := hpre0.length_le; rw [← hls] at h9; omega
   have hMi : (nats ms)[i]? = some (vI ((s : Nat) : Int)) := by
    obtain ⟨r9, hr9⟩ := hpre0
    rw [List.getElem?_map, ← hr9, List.getElem?_append_left (by rw [← hls]; exact hil), hsi]; rfl
   have hFl : i < FF.length := (List.getElem?_eq_some_iff.1 hFi).1
   refine T.cut1 (fun ρ O => ∃ (nb2 fb2 : Option Addr) (nc2 fc2 : Nat), O = ([rowI (aD z7) p.next[s].length 3 1 (ints (qCut (eqQ xs) p.d FF s x)), rowI lb lc 3 1 (nats ms), mapI KIn (fun n : Nat => Value.int .i64 (n : Int)) mN (mpQ xs ms), rowI nb2 nc2 23 1 ((vals qs) ++ [(.slice (aD z7) p.next[s].length p.next[s].length)]), rowI fb2 fc2 3 1 ((ints ((FF.take i).map fun s => ((prN p s : Nat) : Int))) ++ [vI ((prN p s : Nat) : Int)]), oI z6 25 [(vI p.vars), (vI 0), (.slice nb2 (i + 1) nc2), (.slice fb2 (i + 1) fc2)], rowI (aD z4) p.next.length 3 1 (nats xs), oI z2 25 [(vI 0), (vI 0), nS, nS], oI z1 25 (pC p k)] ++ (itms 3 qs)) ∧ Heads [(0, (pV p k)), (1, (.pointer (aD z1))), (2, (.pointer (aD z2))), (3, vI 0), (4, vI (checkP p : Int)), (5, (.slice (aD z4) p.next.length p.next.length)), (6, vI ((cntQ p kk : Nat) : Int)), (7, (.map (some mq3))), (8, (.slice (aD z4) p.next.length p.next.length)), (17, (.map (some mN))), (18, (.slice lb ms.length lc)), (19, (.pointer (aD z6))), (20, vI ((i : Nat) : Int)), (21, (.slice (aD z7) p.next[s].length p.next[s].length))] ρ) ?_ ?_
   ·refine T.treeT [rowI lb lc 3 1 (nats ms), oI z6 25 [(vI p.vars), (vI 0), (.slice nb i nc), (.slice fb i fc)], oI z2 25 [(vI 0), (vI 0), nS, nS], oI z1 25 (pC p k)] [18, 20] 21 mixed rfl (by exact Sub.d (.k (.d (.d (.d (.k (.d (.k (.k .z))))))))) (fun _ _ _ h => h) ?_
    refine RO.quietTT 0 rfl (by kernel_rfl) (q_fa uT25 rfl inf22 rfl rfl) ?_
    refine RO.quietTT 1 rfl (by kernel_rfl) (q_lb 1 uT22 rfl rfl rfl rfl) ?_
    refine RO.quietTT 2 rfl (by kernel_rfl) (q_move rfl) ?_
    refine RO.quietTT 5 rfl (by kernel_rfl) (q_fa uT25 rfl inf23 rfl rfl) ?_
    refine RO.quietTT 6 rfl (by kernel_rfl) (q_lb 1 uT23 rfl rfl rfl rfl) ?_
    refine RO.quietTT 7 rfl (by kernel_rfl) (q_fa uT25 rfl inf23 rfl rfl) ?_
    refine RO.quietTT 8 rfl (by kernel_rfl) (q_lb 3 uT23 rfl rfl rfl rfl) ?_
    refine RO.quietTT 9 rfl (by kernel_rfl) (q_move rfl) ?_
    refine RO.quietTT 10 rfl (by kernel_rfl) (q_move rfl) ?_
    refine RO.quietTT 11 rfl (by kernel_rfl) (q_ix (i := i) uT23 inf3 rfl rfl (rowO (mG 0 rfl)) hMl (by rw [List.length_map]; exact hMl)) ?_
    refine RO.quietTT 12 rfl (by kernel_rfl) (q_ld uT3 rfl rfl (rowO (mG 0 rfl)) hMi) ?_
    refine RO.quietTT 13 rfl (by kernel_rfl) (q_ix (i := s) uT23 inf3 rfl rfl (Sl.o h.prio) hsp (by rw [List.length_map]; exact hsp)) ?_
    refine RO.quietTT 14 rfl (by kernel_rfl) (q_ld uT3 rfl rfl (Sl.o h.prio) (by rw [ints, List.getElem?_map, hv.prAt hsn]; rfl)) ?_
    refine RO.forkT [3, 15] (by kernel_rfl) rfl ⟨⟨_, rfl, rfl, l_build1 (v := (.slice (aD z7) p.next[s].length p.next[s].length)) uT22 inf23 rfl rfl rfl (fun tA => ⟨.inr (by exact Sub.d (.d (.k (.d (.d (.d (.k (.d (.k (.k .z)))))))))), ?_⟩)⟩, ⟨_, rfl, rfl, l_build1 (v := vI ((prN p s : Nat) : Int)) uT23 inf3 rfl rfl rfl (fun tB => ⟨.inr (by exact Sub.d (.d (.k (.d (.d (.d (.k (.d (.k (.k .z)))))))))), ?_⟩)⟩, trivial⟩ (by kernel_rfl)
    ·refine RO.forkT [4, 15] (by kernel_rfl) rfl ⟨⟨_, rfl, rfl, l_append 4 uT22 uT22 inf23 rfl rfl rfl rfl (by simp [hql]) (by decide) (Src.row (j := 0) rfl (by simp)) (by simp [oneB]) (by omega) (by decide) (by decide) (fun nb2 nc2 => ⟨.inr (by exact Sub.d (.d (.k (.d (.d (.d (.k (.d (.k (.k .z)))))))))), ?_⟩)⟩, ⟨_, rfl, rfl, l_build1 (v := vI ((prN p s : Nat) : Int)) uT23 inf3 rfl rfl rfl (fun tB => ⟨.inr (by exact Sub.d (.d (.d (.k (.d (.d (.d (.k (.d (.k (.k .z))))))))))), ?_⟩)⟩, trivial⟩ (by kernel_rfl)
     ·refine RO.quietTT 17 rfl (by kernel_rfl) (q_fa uT25 rfl inf22 rfl rfl) ?_
      refine RO.forkT [15] (by kernel_rfl) rfl ⟨⟨_, rfl, rfl, l_build1 (v := vI ((prN p s : Nat) : Int)) uT23 inf3 rfl rfl rfl (fun tB => ⟨.inr (by exact Sub.d (.d (.d (.k (.d (.d (.d (.k (.d (.k (.k .z))))))))))), ?_⟩)⟩, trivial⟩ (by kernel_rfl)
      refine RO.forkT [16] (by kernel_rfl) rfl ⟨⟨_, rfl, rfl, l_append 6 uT23 uT23 inf3 rfl rfl rfl rfl (by simp; omega) (by decide) (Src.row (j := 0) rfl (by simp)) (by simp [oneB]) (by omega) (by decide) (by decide) (fun fb2 fc2 => ⟨.inr (by exact Sub.d (.d (.d (.k (.d (.d (.d (.k (.d (.k (.k .z))))))))))), ?_⟩)⟩, trivial⟩ (by kernel_rfl)
      refine RO.forkT [18] (by kernel_rfl) rfl ⟨⟨_, rfl, rfl, l_sb (v := (.slice nb2 (i + 1) nc2)) (vs := [(.slice nb2 (i + 1) nc2)]) 7 inf22 rfl rfl rfl rfl rfl rfl (by simp [putL]) ⟨.inl (by decide), ?_⟩⟩, trivial⟩ (by kernel_rfl)
      refine RO.quietE 19 rfl (by kernel_rfl) (q_fa uT25 rfl inf23 rfl rfl) ?_
      refine RO.forkT [20] (by kernel_rfl) rfl ⟨⟨_, rfl, rfl, l_sb (v := (.slice fb2 (i + 1) fc2)) (vs := [(.slice fb2 (i + 1) fc2)]) 7 inf23 rfl rfl rfl rfl rfl rfl (by simp [putL]) ⟨.inl (by decide), ?_⟩⟩, trivial⟩ (by kernel_rfl)
      exact RO.fin (by kernel_rfl) ⟨nb2, fb2, nc2, fc2, rfl, (.of rfl)⟩ (by exact Sub.d (.d (.k (.k (.k (.k (.k (.k (.k (.k (.k .rf)))))))))))
     refine RO.forkT [4] (by kernel_rfl) rfl ⟨⟨_, rfl, rfl, l_append 5 uT22 uT22 inf23 rfl rfl rfl rfl (by simp [hql]) (by decide) (Src.row (j := 1) rfl (by simp)) (by simp [oneB]) (by omega) (by decide) (by decide) (fun nb2 nc2 => ⟨.inr (by exact Sub.d (.d (.d (.k (.d (.d (.d (.k (.d (.k (.k .z))))))))))), ?_⟩)⟩, trivial⟩ (by kernel_rfl)
     refine RO.quietTT 17 rfl (by kernel_rfl) (q_fa uT25 rfl inf22 rfl rfl) ?_
     refine RO.forkT [16] (by kernel_rfl) rfl ⟨⟨_, rfl, rfl, l_append 6 uT23 uT23 inf3 rfl rfl rfl rfl (by simp; omega) (by decide) (Src.row (j := 0) rfl (by simp)) (by simp [oneB]) (by omega) (by decide) (by decide) (fun fb2 fc2 => ⟨.inr (by exact Sub.d (.d (.d (.k (.d (.d (.d (.k (.d (.k (.k .z))))))))))), ?_⟩)⟩, trivial⟩ (by kernel_rfl)
     refine RO.forkT [18] (by kernel_rfl) rfl ⟨⟨_, rfl, rfl, l_sb (v := (.slice nb2 (i + 1) nc2)) (vs := [(.slice nb2 (i + 1) nc2)]) 7 inf22 rfl rfl rfl rfl rfl rfl (by simp [putL]) ⟨.inl (by decide), ?_⟩⟩, trivial⟩ (by kernel_rfl)
     refine RO.quietE 19 rfl (by kernel_rfl) (q_fa uT25 rfl inf23 rfl rfl) ?_
     refine RO.forkT [20] (by kernel_rfl) rfl ⟨⟨_, rfl, rfl, l_sb (v := (.slice fb2 (i + 1) fc2)) (vs := [(.slice fb2 (i + 1) fc2)]) 7 inf23 rfl rfl rfl rfl rfl rfl (by simp [putL]) ⟨.inl (by decide), ?_⟩⟩, trivial⟩ (by kernel_rfl)
     exact RO.fin (by kernel_rfl) ⟨nb2, fb2, nc2, fc2, rfl, (.of rfl)⟩ (by exact Sub.d (.d (.k (.k (.k (.k (.k (.k (.k (.k (.k .rf)))))))))))
    refine RO.forkT [3] (by kernel_rfl) rfl ⟨⟨_, rfl, rfl, l_build1 (v := (.slice (aD z7) p.next[s].length p.next[s].length)) uT22 inf23 rfl rfl rfl (fun tA => ⟨.inr (by exact Sub.d (.d (.d (.k (.d (.d (.d (.k (.d (.k (.k .z))))))))))), ?_⟩)⟩, trivial⟩ (by kernel_rfl)
    refine RO.forkT [4] (by kernel_rfl) rfl ⟨⟨_, rfl, rfl, l_append 5 uT22 uT22 inf23 rfl rfl rfl rfl (by simp [hql]) (by decide) (Src.row (j := 0) rfl (by simp)) (by simp [oneB]) (by omega) (by decide) (by decide) (fun nb2 nc2 => ⟨.inr (by exact Sub.d (.d (.d (.k (.d (.d (.d (.k (.d (.k (.k .z))))))))))), ?_⟩)⟩, trivial⟩ (by kernel_rfl)
    refine RO.quietTT 17 rfl (by kernel_rfl) (q_fa uT25 rfl inf22 rfl rfl) ?_
    refine RO.forkT [16] (by kernel_rfl) rfl ⟨⟨_, rfl, rfl, l_append 6 uT23 uT23 inf3 rfl rfl rfl rfl (by simp; omega) (by decide) (Src.row (j := 1) rfl (by simp)) (by simp [oneB]) (by omega) (by decide) (by decide) (fun fb2 fc2 => ⟨.inr (by exact Sub.d (.d (.d (.k (.d (.d (.d (.k (.d (.k (.k .z))))))))))), ?_⟩)⟩, trivial⟩ (by kernel_rfl)
    refine RO.forkT [18] (by kernel_rfl) rfl ⟨⟨_, rfl, rfl, l_sb (v := (.slice nb2 (i + 1) nc2)) (vs := [(.slice nb2 (i + 1) nc2)]) 7 inf22 rfl rfl rfl rfl rfl rfl (by simp [putL]) ⟨.inl (by decide), ?_⟩⟩, trivial⟩ (by kernel_rfl)
    refine RO.quietE 19 rfl (by kernel_rfl) (q_fa uT25 rfl inf23 rfl rfl) ?_
    refine RO.forkT [20] (by kernel_rfl) rfl ⟨⟨_, rfl, rfl, l_sb (v := (.slice fb2 (i + 1) fc2)) (vs := [(.slice fb2 (i + 1) fc2)]) 7 inf23 rfl rfl rfl rfl rfl rfl (by simp [putL]) ⟨.inl (by decide), ?_⟩⟩, trivial⟩ (by kernel_rfl)
    exact RO.fin (by kernel_rfl) ⟨nb2, fb2, nc2, fc2, rfl, (.of rfl)⟩ (by exact Sub.d (.d (.k (.k (.k (.k (.k (.k (.k (.k (.k .rf)))))))))))
   rintro ρ O ⟨nb2, fb2, nc2, fc2, rfl, hH⟩
   obtain ⟨ρ0, rfl⟩ := hH.elim
   clear hH
   have hqc : qCut (eqQ xs) p.d FF s x = qRow (eqQ xs) p.d FF s := by rw [show x = letN p.d by omega]; exact qCut_end _ _ _ _
   have hFs : FF.take (i + 1) = FF.take i ++ [s] := by
    rw [List.take_succ_eq_append_getElem hFl]
    rw [List.getElem?_eq_getElem hFl] at hFi
    rw [Option.some.inj hFi]
   have e9 : ms = qN (eqQ xs) p.d (i + 1) := by rw [hms, show x = letN p.d by omega]; exact (qN_step hsi).symm
   have hpr9 : ints ((FF.take (i + 1)).map fun s => ((prN p s : Nat) : Int)) = (ints ((FF.take i).map fun s => ((prN p s : Nat) : Int))) ++ [vI ((prN p s : Nat) : Int)] := by rw [hFs, List.map_append]; exact List.map_append
   have hrl9 : (qRow (eqQ xs) p.d FF s).length = p.next[s].length := by rw [hr1]; simp [qRow]
   refine T.sub (O' := [Rec.itm 3 ⟨(aD z7), p.next[s].length, qRow (eqQ xs) p.d FF s⟩, rowI lb lc 3 1 (nats ms), mapI KIn (fun n : Nat => Value.int .i64 (n : Int)) mN (mpQ xs ms), rowI nb2 nc2 23 1 ((vals qs) ++ [(.slice (aD z7) p.next[s].length p.next[s].length)]), rowI fb2 fc2 3 1 ((ints ((FF.take i).map fun s => ((prN p s : Nat) : Int))) ++ [vI ((prN p s : Nat) : Int)]), oI z6 25 [(vI p.vars), (vI 0), (.slice nb2 (i + 1) nc2), (.slice fb2 (i + 1) fc2)], rowI (aD z4) p.next.length 3 1 (nats xs), oI z2 25 [(vI 0), (vI 0), nS, nS], oI z1 25 (pC p k)] ++ (itms 3 qs)) (by rw [hqc]; exact Sub.rf) ?_
   refine T.sub (O' := [rowI lb lc 3 1 (nats ms), mapI KIn (fun n : Nat => Value.int .i64 (n : Int)) mN (mpQ xs ms), rowI nb2 nc2 23 1 (vals (qs ++ [⟨(aD z7), p.next[s].length, qRow (eqQ xs) p.d FF s⟩])), rowI fb2 fc2 3 1 (ints ((FF.take (i + 1)).map fun s => ((prN p s : Nat) : Int))), oI z6 25 [(vI p.vars), (vI 0), (.slice nb2 (i + 1) nc2), (.slice fb2 (i + 1) fc2)], rowI (aD z4) p.next.length 3 1 (nats xs), oI z2 25 [(vI 0), (vI 0), nS, nS], oI z1 25 (pC p k)] ++ (itms 3 (qs ++ [⟨(aD z7), p.next[s].length, qRow (eqQ xs) p.d FF s⟩]))) (by rw [hpr9, show vals (qs ++ [(⟨(aD z7), p.next[s].length, qRow (eqQ xs) p.d FF s⟩ : Rec)]) = vals qs ++ [Value.slice (aD z7) p.next[s].length p.next[s].length] by simp [Rec.val, hrl9]]; exact Sub.ca []) ?_
   refine T.rg (TO.qm rfl (TO.q (q_addN (a := i) (b := 1) rfl rfl (by omega)) (TO.qa rfl (TO.nl ?_))))
   exact ⟨i + 1, by omega, ([rowI lb lc 3 1 (nats ms), mapI KIn (fun n : Nat => Value.int .i64 (n : Int)) mN (mpQ xs ms), rowI nb2 nc2 23 1 (vals (qs ++ [⟨(aD z7), p.next[s].length, qRow (eqQ xs) p.d FF s⟩])), rowI fb2 fc2 3 1 (ints ((FF.take (i + 1)).map fun s => ((prN p s : Nat) : Int))), oI z6 25 [(vI p.vars), (vI 0), (.slice nb2 (i + 1) nc2), (.slice fb2 (i + 1) fc2)], rowI (aD z4) p.next.length 3 1 (nats xs), oI z2 25 [(vI 0), (vI 0), nS, nS], oI z1 25 (pC p k)] ++ (itms 3 (qs ++ [⟨(aD z7), p.next[s].length, qRow (eqQ xs) p.d FF s⟩]))), (by exact Sub.rf), lb, nb2, fb2, lc, nc2, fc2, qs ++ [⟨(aD z7), p.next[s].length, qRow (eqQ xs) p.d FF s⟩], ms, rfl, by omega, by simp [hql], by rw [hFs, List.map_append, ← hqs]; exact List.map_append, e9, (.of rfl)⟩
  have hge114 : ¬ i < ls.length := by omega
  refine T.exit ?_
  refine T.s (T.rg (TO.q (q_la 4 uT25 rfl inf25 rfl rfl rfl) (TO.l rfl (l_sb (v := (.agg #[(vI p.vars), (vI 0), (.slice nb i nc), (.slice fb i fc)])) (vs := [(vI p.vars), (vI 0), (.slice nb i nc), (.slice fb i fc)]) 6 inf25 rfl rfl rfl rfl rfl rfl (by simp [putL]) ?_))))
  refine TO.qa rfl (TO.nl (T.ret (Res.drop ?_)))
  refine Res.cell1b (vI 0) (i := 6) Tryd.results27 uT25 rfl inf25 rfl rfl rfl rfl ?_
  have hFe : FF = (qN (eqQ xs) p.d i) := hFF.symm.trans (qN_last hv hBis (by rw [← hls]; omega) (by omega))
  have hFl9 : FF.length = i := by rw [hFe, ← hls]; omega
  have htk : FF.take i = FF := List.take_of_length_le (by omega)
  have hlt9 : (FF.take i).length = i := by rw [htk]; exact hFl9
  have hq9 : quoV p = quoP (eqQ xs) p := quoV_of he0 hBis
  have hQ : quoP (eqQ xs) p = ⟨p.vars, 0, (FF.take i).map (qRow (eqQ xs) p.d FF), (FF.take i).map fun s => ((prN p s : Nat) : Int)⟩ := by
   rw [htk]; show quoA (eqQ xs) p (qN (eqQ xs) p.d p.next.length) = _; rw [hFF]; rfl
  rw [hq9, hQ, he0]
  exact ⟨[rowI nb nc 23 1 (vals qs), rowI fb fc 3 1 (ints ((FF.take i).map fun s => ((prN p s : Nat) : Int)))] ++ itms 3 qs, (by exact Sub.d (.d (.k (.k (.d (.d (.d (.d .rf)))))))), nb, nc, fb, fc, qs, by show _ = Value.tuple #[Value.agg #[vI p.vars, vI 0, .slice nb ((FF.take i).map (qRow (eqQ xs) p.d FF)).length nc, .slice fb ((FF.take i).map fun s => ((prN p s : Nat) : Int)).length fc], vI 0]; rw [List.length_map, List.length_map, hlt9]; rfl, rfl, hqs⟩
 have hge95 : ¬ ks.length = cntQ p kk := by omega
 obtain ⟨hxs, hks⟩ := hR.done (by omega)
 have hnum : ks.length = numQ p kk := by rw [hks]; rfl
 have hlt9 := cntQ_lt hv (k := kk) (by omega)
 refine T.skip (T.rg (TO.qm rfl (TO.q (QT.cast (q_lenMap uT83 rfl (mG 1 rfl)) (v' := vI ((ks.length : Nat) : Int)) (by simp)) (TO.qa rfl (TO.nl ?_)))))
 exact ⟨kk + 1, by show p.next.length + 1 - numQ p kk < _; omega, [rowI (aD z4) p.next.length 3 1 (nats xs), oI z2 25 [(vI 0), (vI 0), nS, nS], oI z1 25 (pC p k)], (by exact Sub.k (.d (.d (.k (.k .z))))), (aD z4), p.next.length, by rw [hxs]; rfl, ⟨rfl, rfl, rfl, rfl, rfl, rfl, (by rw [hnum]; rfl), trivial⟩⟩
theorem parQuo (w : World) [Tab Tryd.prog w] [Tab Tryd.prog w] (p : Par) (k : DK) (h : AtP w p k) (hB : ParC p) :
  PureT Tryd.prog 27 [pV p k] w fun v N => ∃ k9 : DK, v = .tuple #[pV (quoV p) k9, vI (checkP p : Int)] ∧ N = [pI 23 3 (quoV p) k9] :=
 (parQuo0 w p k h hB).packR fun v O' hR => by
  obtain ⟨nb, nc, fb, fc, qs, rfl, rfl, hq9⟩ := hR
  exact ⟨nums qs = (quoV p).next, _, [], hq9, (List.append_nil _).symm, ⟨nb, nc, fb, fc, qs⟩, rfl, rfl⟩
end Go.Proofs.YtnikhiohindggaaDoor


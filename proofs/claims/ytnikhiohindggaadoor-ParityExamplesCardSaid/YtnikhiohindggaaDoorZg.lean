/- Contracts of functions of the program (Zc, Zf, Yw, Zd, Zg): what each call answers and that it leaves memory as it was. Conditions: those each theorem names. -/
import Derived.Test.YtnikhiohindggaaDoorCoreK
import Derived.Test.YtnikhiohindggaaDoorZb
import Derived.Test.YtnikhiohindggaaDoorYr
import Derived.Test.YtnikhiohindggaaDoorYs
set_option linter.unusedSectionVars false
set_option linter.unusedSimpArgs false
set_option linter.unusedVariables false
set_option linter.unnecessarySimpa false
set_option maxHeartbeats 8000000
set_option maxRecDepth 20000
namespace Go.Proofs.YtnikhiohindggaaDoor
open Go.Lx Go.RowKit _root_.Go.Proofs.Tryd
theorem componentsC (base : World) [Tab Tryd.prog base] (p : Par) (k : DK) (h : AtP base p k) (hv : Val p.d) (hn : p.next.length ≤ 4096) (hw : letN p.d ≤ 64) (hEl : ∀ u w, DE p.d u w → w < p.next.length) (OO : List Lx.Item) (al : Nat → Bool) (fal : Value) (hfc : fal.cells = #[fal]) (hal : ∀ u, u < p.next.length → CallV Tryd.prog base fal [.int .i64 ((u : Nat) : Int)] OO (fun v O' => v = .bool (decide (al u = true)) ∧ O' = OO)) (gx : Nat) :
    CallT Tryd.prog base 53 [(.agg #[.int .i64 ((p.next.length : Nat) : Int), (.func (.func 77) #[] #[(.pointer (some ⟨gx, 0, none⟩))])]), fal] ([oI gx 25 (pC p k)] ++ OO) (fun v O' => ∃ all b c ps, v = .slice b (List.length ps) c ∧ O' = [rowI b c 23 1 (vals ps), oI gx 25 (pC p k)] ++ (OO ++ itms 3 ps) ∧ nums ps = List.map intY all ∧ PartsOk p.next.length (DE p.d) (fun u => al u = true) all) := by
  refine CallT.enter func53 rfl ntmps53 rfl ?_
  refine T.s (T.rg ?_)
  refine TO.l rfl (l_box (v := (.agg #[.int .i64 ((p.next.length : Nat) : Int), (.func (.func 77) #[] #[(.pointer (some ⟨gx, 0, none⟩))])])) (cs := [.int .i64 ((p.next.length : Nat) : Int), (.func (.func 77) #[] #[(.pointer (some ⟨gx, 0, none⟩))])]) rfl rfl (fun bx1 => ?_))
  refine TO.l rfl (l_box (v := fal) (cs := [fal]) rfl hfc (fun bx2 => ?_))
  refine TO.l rfl (l_alloc inf22 rfl (fun bx3 => ?_))
  refine TO.nl ?_
  refine T.cut (fun ρ O => ∃ (zA zB zC zD : Nat), O = ([oI zC 23 [(.slice (some ⟨zA, 0, none⟩) p.next.length p.next.length)], oI zD 23 [(.slice (some ⟨zB, 0, none⟩) p.next.length p.next.length)], rowI (some ⟨zA, 0, none⟩) p.next.length 3 1 (List.replicate p.next.length (.int .i64 0)), rowI (some ⟨zB, 0, none⟩) p.next.length 3 1 (List.replicate p.next.length (.int .i64 0)), oI bx3 22 [(.slice none 0 0)], oI bx2 69 [fal], oI bx1 76 [.int .i64 ((p.next.length : Nat) : Int), (.func (.func 77) #[] #[(.pointer (some ⟨gx, 0, none⟩))])], oI gx 25 (pC p k)] ++ OO) ∧ Heads [(0, (.agg #[.int .i64 ((p.next.length : Nat) : Int), (.func (.func 77) #[] #[(.pointer (some ⟨gx, 0, none⟩))])])), (1, fal), (2, (.pointer (some ⟨bx1, 0, none⟩))), (3, (.pointer (some ⟨bx2, 0, none⟩))), (4, (.pointer (some ⟨bx3, 0, none⟩))), (5, (.pointer (some ⟨zC, 0, none⟩))), (6, (.pointer (some ⟨zD, 0, none⟩)))] ρ) ?_ ?_
  · refine T.tree [oI bx1 76 [.int .i64 ((p.next.length : Nat) : Int), (.func (.func 77) #[] #[(.pointer (some ⟨gx, 0, none⟩))])]] 10 mixed rfl (by exact Sub.d (.d (.k .z))) (fun _ _ _ h => h) ?_
    refine RO.quietT 0 rfl (by kernel_rfl) (q_fa underlying76 rfl inf3 rfl rfl) ?_
    refine RO.quietT 1 rfl (by kernel_rfl) (q_lb 0 underlying3 rfl rfl rfl rfl) ?_
    refine RO.quietT 3 rfl (by kernel_rfl) (q_fa underlying76 rfl inf3 rfl rfl) ?_
    refine RO.quietT 4 rfl (by kernel_rfl) (q_lb 0 underlying3 rfl rfl rfl rfl) ?_
    refine RO.fork [2, 5, 6, 7] (by kernel_rfl) rfl ⟨⟨_, rfl, rfl, l_makeSlice (m := p.next.length) underlying23 inf3 rfl rfl (by omega) (by omega) (fun zA => ⟨by exact Sub.d (.d (.d (.k .z))), ?_⟩)⟩, ⟨_, rfl, rfl, l_makeSlice (m := p.next.length) underlying23 inf3 rfl rfl (by omega) (by omega) (fun zB => ⟨by exact Sub.d (.d (.d (.k .z))), ?_⟩)⟩, ⟨_, rfl, rfl, l_alloc inf23 rfl (fun zC => ⟨by exact Sub.d (.d (.d (.k .z))), ?_⟩)⟩, ⟨_, rfl, rfl, l_alloc inf23 rfl (fun zD => ⟨by exact Sub.d (.d (.d (.k .z))), ?_⟩)⟩, trivial⟩
    · refine RO.fork [5, 6, 7] (by kernel_rfl) rfl ⟨⟨_, rfl, rfl, l_makeSlice (m := p.next.length) underlying23 inf3 rfl rfl (by omega) (by omega) (fun zB => ⟨by exact Sub.d (.d (.d (.d (.k .z)))), ?_⟩)⟩, ⟨_, rfl, rfl, l_alloc inf23 rfl (fun zC => ⟨by exact Sub.d (.d (.d (.d (.k .z)))), ?_⟩)⟩, ⟨_, rfl, rfl, l_alloc inf23 rfl (fun zD => ⟨by exact Sub.d (.d (.d (.d (.k .z)))), ?_⟩)⟩, trivial⟩
      · refine RO.fork [6, 7] (by kernel_rfl) rfl ⟨⟨_, rfl, rfl, l_alloc inf23 rfl (fun zC => ⟨by exact Sub.d (.d (.d (.d (.d (.k .z))))), ?_⟩)⟩, ⟨_, rfl, rfl, l_alloc inf23 rfl (fun zD => ⟨by exact Sub.d (.d (.d (.d (.d (.k .z))))), ?_⟩)⟩, trivial⟩
        · refine RO.fork [7] (by kernel_rfl) rfl ⟨⟨_, rfl, rfl, l_alloc inf23 rfl (fun zD => ⟨by exact Sub.d (.d (.d (.d (.d (.d (.k .z)))))), ?_⟩)⟩, trivial⟩
          refine RO.fork [8] (by kernel_rfl) rfl ⟨⟨_, rfl, rfl, l_sb (v := (.slice (some ⟨zA, 0, none⟩) p.next.length p.next.length)) (vs := [(.slice (some ⟨zA, 0, none⟩) p.next.length p.next.length)]) 1 inf23 rfl rfl rfl rfl rfl rfl (by simp [putL]) ⟨by exact Sub.d (.d (.d (.d (.d (.d (.k .z)))))), ?_⟩⟩, trivial⟩
          refine RO.fork [9] (by kernel_rfl) rfl ⟨⟨_, rfl, rfl, l_sb (v := (.slice (some ⟨zB, 0, none⟩) p.next.length p.next.length)) (vs := [(.slice (some ⟨zB, 0, none⟩) p.next.length p.next.length)]) 0 inf23 rfl rfl rfl rfl rfl rfl (by simp [putL]) ⟨by exact Sub.d (.d (.d (.d (.d (.d (.k .z)))))), ?_⟩⟩, trivial⟩
          exact RO.fin (by kernel_rfl) ⟨zA, zB, zC, zD, rfl, ⟨rfl, rfl, rfl, rfl, rfl, rfl, rfl, trivial⟩⟩ (by exact Sub.pull [oI zD 23 [(.slice (some ⟨zB, 0, none⟩) p.next.length p.next.length)]] _ (.k (.pull [rowI (some ⟨zB, 0, none⟩) p.next.length 3 1 (List.replicate p.next.length (.int .i64 0))] _ (.k (.k (.k (.k (.k .rf))))))))
        refine RO.fork [6] (by kernel_rfl) rfl ⟨⟨_, rfl, rfl, l_alloc inf23 rfl (fun zC => ⟨by exact Sub.d (.d (.d (.d (.d (.d (.k .z)))))), ?_⟩)⟩, trivial⟩
        refine RO.fork [8] (by kernel_rfl) rfl ⟨⟨_, rfl, rfl, l_sb (v := (.slice (some ⟨zA, 0, none⟩) p.next.length p.next.length)) (vs := [(.slice (some ⟨zA, 0, none⟩) p.next.length p.next.length)]) 0 inf23 rfl rfl rfl rfl rfl rfl (by simp [putL]) ⟨by exact Sub.d (.d (.d (.d (.d (.d (.k .z)))))), ?_⟩⟩, trivial⟩
        refine RO.fork [9] (by kernel_rfl) rfl ⟨⟨_, rfl, rfl, l_sb (v := (.slice (some ⟨zB, 0, none⟩) p.next.length p.next.length)) (vs := [(.slice (some ⟨zB, 0, none⟩) p.next.length p.next.length)]) 1 inf23 rfl rfl rfl rfl rfl rfl (by simp [putL]) ⟨by exact Sub.d (.d (.d (.d (.d (.d (.k .z)))))), ?_⟩⟩, trivial⟩
        exact RO.fin (by kernel_rfl) ⟨zA, zB, zC, zD, rfl, ⟨rfl, rfl, rfl, rfl, rfl, rfl, rfl, trivial⟩⟩ (by exact Sub.k (.k (.pull [rowI (some ⟨zB, 0, none⟩) p.next.length 3 1 (List.replicate p.next.length (.int .i64 0))] _ (.k (.k (.k (.k (.k .rf))))))))
      · refine RO.fork [5, 7] (by kernel_rfl) rfl ⟨⟨_, rfl, rfl, l_makeSlice (m := p.next.length) underlying23 inf3 rfl rfl (by omega) (by omega) (fun zB => ⟨by exact Sub.d (.d (.d (.d (.d (.k .z))))), ?_⟩)⟩, ⟨_, rfl, rfl, l_alloc inf23 rfl (fun zD => ⟨by exact Sub.d (.d (.d (.d (.d (.k .z))))), ?_⟩)⟩, trivial⟩
        · refine RO.fork [7] (by kernel_rfl) rfl ⟨⟨_, rfl, rfl, l_alloc inf23 rfl (fun zD => ⟨by exact Sub.d (.d (.d (.d (.d (.d (.k .z)))))), ?_⟩)⟩, trivial⟩
          refine RO.fork [8] (by kernel_rfl) rfl ⟨⟨_, rfl, rfl, l_sb (v := (.slice (some ⟨zA, 0, none⟩) p.next.length p.next.length)) (vs := [(.slice (some ⟨zA, 0, none⟩) p.next.length p.next.length)]) 2 inf23 rfl rfl rfl rfl rfl rfl (by simp [putL]) ⟨by exact Sub.d (.d (.d (.d (.d (.d (.k .z)))))), ?_⟩⟩, trivial⟩
          refine RO.fork [9] (by kernel_rfl) rfl ⟨⟨_, rfl, rfl, l_sb (v := (.slice (some ⟨zB, 0, none⟩) p.next.length p.next.length)) (vs := [(.slice (some ⟨zB, 0, none⟩) p.next.length p.next.length)]) 0 inf23 rfl rfl rfl rfl rfl rfl (by simp [putL]) ⟨by exact Sub.d (.d (.d (.d (.d (.d (.k .z)))))), ?_⟩⟩, trivial⟩
          exact RO.fin (by kernel_rfl) ⟨zA, zB, zC, zD, rfl, ⟨rfl, rfl, rfl, rfl, rfl, rfl, rfl, trivial⟩⟩ (by exact Sub.pull [oI zD 23 [(.slice (some ⟨zB, 0, none⟩) p.next.length p.next.length)], rowI (some ⟨zB, 0, none⟩) p.next.length 3 1 (List.replicate p.next.length (.int .i64 0))] _ (.k (.pull [rowI (some ⟨zB, 0, none⟩) p.next.length 3 1 (List.replicate p.next.length (.int .i64 0))] _ (.k (.k (.k (.k (.k .rf))))))))
        refine RO.fork [5, 8] (by kernel_rfl) rfl ⟨⟨_, rfl, rfl, l_makeSlice (m := p.next.length) underlying23 inf3 rfl rfl (by omega) (by omega) (fun zB => ⟨by exact Sub.d (.d (.d (.d (.d (.d (.k .z)))))), ?_⟩)⟩, ⟨_, rfl, rfl, l_sb (v := (.slice (some ⟨zA, 0, none⟩) p.next.length p.next.length)) (vs := [(.slice (some ⟨zA, 0, none⟩) p.next.length p.next.length)]) 1 inf23 rfl rfl rfl rfl rfl rfl (by simp [putL]) ⟨by exact Sub.d (.d (.d (.d (.d (.k .z))))), ?_⟩⟩, trivial⟩
        · refine RO.fork [8] (by kernel_rfl) rfl ⟨⟨_, rfl, rfl, l_sb (v := (.slice (some ⟨zA, 0, none⟩) p.next.length p.next.length)) (vs := [(.slice (some ⟨zA, 0, none⟩) p.next.length p.next.length)]) 2 inf23 rfl rfl rfl rfl rfl rfl (by simp [putL]) ⟨by exact Sub.d (.d (.d (.d (.d (.d (.k .z)))))), ?_⟩⟩, trivial⟩
          refine RO.fork [9] (by kernel_rfl) rfl ⟨⟨_, rfl, rfl, l_sb (v := (.slice (some ⟨zB, 0, none⟩) p.next.length p.next.length)) (vs := [(.slice (some ⟨zB, 0, none⟩) p.next.length p.next.length)]) 1 inf23 rfl rfl rfl rfl rfl rfl (by simp [putL]) ⟨by exact Sub.d (.d (.d (.d (.d (.d (.k .z)))))), ?_⟩⟩, trivial⟩
          exact RO.fin (by kernel_rfl) ⟨zA, zB, zC, zD, rfl, ⟨rfl, rfl, rfl, rfl, rfl, rfl, rfl, trivial⟩⟩ (by exact Sub.pull [rowI (some ⟨zB, 0, none⟩) p.next.length 3 1 (List.replicate p.next.length (.int .i64 0)), oI zD 23 [(.slice (some ⟨zB, 0, none⟩) p.next.length p.next.length)]] _ (.pull [rowI (some ⟨zB, 0, none⟩) p.next.length 3 1 (List.replicate p.next.length (.int .i64 0))] _ (.pull [rowI (some ⟨zB, 0, none⟩) p.next.length 3 1 (List.replicate p.next.length (.int .i64 0))] _ (.k (.k (.k (.k (.k .rf))))))))
        refine RO.fork [5] (by kernel_rfl) rfl ⟨⟨_, rfl, rfl, l_makeSlice (m := p.next.length) underlying23 inf3 rfl rfl (by omega) (by omega) (fun zB => ⟨by exact Sub.d (.d (.d (.d (.d (.d (.k .z)))))), ?_⟩)⟩, trivial⟩
        refine RO.fork [9] (by kernel_rfl) rfl ⟨⟨_, rfl, rfl, l_sb (v := (.slice (some ⟨zB, 0, none⟩) p.next.length p.next.length)) (vs := [(.slice (some ⟨zB, 0, none⟩) p.next.length p.next.length)]) 1 inf23 rfl rfl rfl rfl rfl rfl (by simp [putL]) ⟨by exact Sub.d (.d (.d (.d (.d (.d (.k .z)))))), ?_⟩⟩, trivial⟩
        exact RO.fin (by kernel_rfl) ⟨zA, zB, zC, zD, rfl, ⟨rfl, rfl, rfl, rfl, rfl, rfl, rfl, trivial⟩⟩ (by exact Sub.pull [rowI (some ⟨zB, 0, none⟩) p.next.length 3 1 (List.replicate p.next.length (.int .i64 0)), oI zD 23 [(.slice (some ⟨zB, 0, none⟩) p.next.length p.next.length)]] _ (.pull [rowI (some ⟨zB, 0, none⟩) p.next.length 3 1 (List.replicate p.next.length (.int .i64 0))] _ (.pull [rowI (some ⟨zB, 0, none⟩) p.next.length 3 1 (List.replicate p.next.length (.int .i64 0))] _ (.k (.k (.k (.k (.k .rf))))))))
      refine RO.fork [5, 6] (by kernel_rfl) rfl ⟨⟨_, rfl, rfl, l_makeSlice (m := p.next.length) underlying23 inf3 rfl rfl (by omega) (by omega) (fun zB => ⟨by exact Sub.d (.d (.d (.d (.d (.k .z))))), ?_⟩)⟩, ⟨_, rfl, rfl, l_alloc inf23 rfl (fun zC => ⟨by exact Sub.d (.d (.d (.d (.d (.k .z))))), ?_⟩)⟩, trivial⟩
      · refine RO.fork [6] (by kernel_rfl) rfl ⟨⟨_, rfl, rfl, l_alloc inf23 rfl (fun zC => ⟨by exact Sub.d (.d (.d (.d (.d (.d (.k .z)))))), ?_⟩)⟩, trivial⟩
        refine RO.fork [8] (by kernel_rfl) rfl ⟨⟨_, rfl, rfl, l_sb (v := (.slice (some ⟨zA, 0, none⟩) p.next.length p.next.length)) (vs := [(.slice (some ⟨zA, 0, none⟩) p.next.length p.next.length)]) 0 inf23 rfl rfl rfl rfl rfl rfl (by simp [putL]) ⟨by exact Sub.d (.d (.d (.d (.d (.d (.k .z)))))), ?_⟩⟩, trivial⟩
        refine RO.fork [9] (by kernel_rfl) rfl ⟨⟨_, rfl, rfl, l_sb (v := (.slice (some ⟨zB, 0, none⟩) p.next.length p.next.length)) (vs := [(.slice (some ⟨zB, 0, none⟩) p.next.length p.next.length)]) 2 inf23 rfl rfl rfl rfl rfl rfl (by simp [putL]) ⟨by exact Sub.d (.d (.d (.d (.d (.d (.k .z)))))), ?_⟩⟩, trivial⟩
        exact RO.fin (by kernel_rfl) ⟨zA, zB, zC, zD, rfl, ⟨rfl, rfl, rfl, rfl, rfl, rfl, rfl, trivial⟩⟩ (by exact Sub.k (.pull [rowI (some ⟨zB, 0, none⟩) p.next.length 3 1 (List.replicate p.next.length (.int .i64 0))] _ (.pull [rowI (some ⟨zB, 0, none⟩) p.next.length 3 1 (List.replicate p.next.length (.int .i64 0))] _ (.k (.k (.k (.k (.k .rf))))))))
      refine RO.fork [5, 8] (by kernel_rfl) rfl ⟨⟨_, rfl, rfl, l_makeSlice (m := p.next.length) underlying23 inf3 rfl rfl (by omega) (by omega) (fun zB => ⟨by exact Sub.d (.d (.d (.d (.d (.d (.k .z)))))), ?_⟩)⟩, ⟨_, rfl, rfl, l_sb (v := (.slice (some ⟨zA, 0, none⟩) p.next.length p.next.length)) (vs := [(.slice (some ⟨zA, 0, none⟩) p.next.length p.next.length)]) 0 inf23 rfl rfl rfl rfl rfl rfl (by simp [putL]) ⟨by exact Sub.d (.d (.d (.d (.d (.k .z))))), ?_⟩⟩, trivial⟩
      · refine RO.fork [8] (by kernel_rfl) rfl ⟨⟨_, rfl, rfl, l_sb (v := (.slice (some ⟨zA, 0, none⟩) p.next.length p.next.length)) (vs := [(.slice (some ⟨zA, 0, none⟩) p.next.length p.next.length)]) 1 inf23 rfl rfl rfl rfl rfl rfl (by simp [putL]) ⟨by exact Sub.d (.d (.d (.d (.d (.d (.k .z)))))), ?_⟩⟩, trivial⟩
        refine RO.fork [9] (by kernel_rfl) rfl ⟨⟨_, rfl, rfl, l_sb (v := (.slice (some ⟨zB, 0, none⟩) p.next.length p.next.length)) (vs := [(.slice (some ⟨zB, 0, none⟩) p.next.length p.next.length)]) 2 inf23 rfl rfl rfl rfl rfl rfl (by simp [putL]) ⟨by exact Sub.d (.d (.d (.d (.d (.d (.k .z)))))), ?_⟩⟩, trivial⟩
        exact RO.fin (by kernel_rfl) ⟨zA, zB, zC, zD, rfl, ⟨rfl, rfl, rfl, rfl, rfl, rfl, rfl, trivial⟩⟩ (by exact Sub.pull [rowI (some ⟨zB, 0, none⟩) p.next.length 3 1 (List.replicate p.next.length (.int .i64 0))] _ (.pull [rowI (some ⟨zB, 0, none⟩) p.next.length 3 1 (List.replicate p.next.length (.int .i64 0))] _ (.pull [rowI (some ⟨zB, 0, none⟩) p.next.length 3 1 (List.replicate p.next.length (.int .i64 0))] _ (.k (.k (.k (.k (.k .rf))))))))
      refine RO.fork [5] (by kernel_rfl) rfl ⟨⟨_, rfl, rfl, l_makeSlice (m := p.next.length) underlying23 inf3 rfl rfl (by omega) (by omega) (fun zB => ⟨by exact Sub.d (.d (.d (.d (.d (.d (.k .z)))))), ?_⟩)⟩, trivial⟩
      refine RO.fork [9] (by kernel_rfl) rfl ⟨⟨_, rfl, rfl, l_sb (v := (.slice (some ⟨zB, 0, none⟩) p.next.length p.next.length)) (vs := [(.slice (some ⟨zB, 0, none⟩) p.next.length p.next.length)]) 2 inf23 rfl rfl rfl rfl rfl rfl (by simp [putL]) ⟨by exact Sub.d (.d (.d (.d (.d (.d (.k .z)))))), ?_⟩⟩, trivial⟩
      exact RO.fin (by kernel_rfl) ⟨zA, zB, zC, zD, rfl, ⟨rfl, rfl, rfl, rfl, rfl, rfl, rfl, trivial⟩⟩ (by exact Sub.pull [rowI (some ⟨zB, 0, none⟩) p.next.length 3 1 (List.replicate p.next.length (.int .i64 0))] _ (.pull [rowI (some ⟨zB, 0, none⟩) p.next.length 3 1 (List.replicate p.next.length (.int .i64 0))] _ (.pull [rowI (some ⟨zB, 0, none⟩) p.next.length 3 1 (List.replicate p.next.length (.int .i64 0))] _ (.k (.k (.k (.k (.k .rf))))))))
    · refine RO.fork [2, 6, 7] (by kernel_rfl) rfl ⟨⟨_, rfl, rfl, l_makeSlice (m := p.next.length) underlying23 inf3 rfl rfl (by omega) (by omega) (fun zA => ⟨by exact Sub.d (.d (.d (.d (.k .z)))), ?_⟩)⟩, ⟨_, rfl, rfl, l_alloc inf23 rfl (fun zC => ⟨by exact Sub.d (.d (.d (.d (.k .z)))), ?_⟩)⟩, ⟨_, rfl, rfl, l_alloc inf23 rfl (fun zD => ⟨by exact Sub.d (.d (.d (.d (.k .z)))), ?_⟩)⟩, trivial⟩
      · refine RO.fork [6, 7] (by kernel_rfl) rfl ⟨⟨_, rfl, rfl, l_alloc inf23 rfl (fun zC => ⟨by exact Sub.d (.d (.d (.d (.d (.k .z))))), ?_⟩)⟩, ⟨_, rfl, rfl, l_alloc inf23 rfl (fun zD => ⟨by exact Sub.d (.d (.d (.d (.d (.k .z))))), ?_⟩)⟩, trivial⟩
        · refine RO.fork [7] (by kernel_rfl) rfl ⟨⟨_, rfl, rfl, l_alloc inf23 rfl (fun zD => ⟨by exact Sub.d (.d (.d (.d (.d (.d (.k .z)))))), ?_⟩)⟩, trivial⟩
          refine RO.fork [8] (by kernel_rfl) rfl ⟨⟨_, rfl, rfl, l_sb (v := (.slice (some ⟨zA, 0, none⟩) p.next.length p.next.length)) (vs := [(.slice (some ⟨zA, 0, none⟩) p.next.length p.next.length)]) 1 inf23 rfl rfl rfl rfl rfl rfl (by simp [putL]) ⟨by exact Sub.d (.d (.d (.d (.d (.d (.k .z)))))), ?_⟩⟩, trivial⟩
          refine RO.fork [9] (by kernel_rfl) rfl ⟨⟨_, rfl, rfl, l_sb (v := (.slice (some ⟨zB, 0, none⟩) p.next.length p.next.length)) (vs := [(.slice (some ⟨zB, 0, none⟩) p.next.length p.next.length)]) 0 inf23 rfl rfl rfl rfl rfl rfl (by simp [putL]) ⟨by exact Sub.d (.d (.d (.d (.d (.d (.k .z)))))), ?_⟩⟩, trivial⟩
          exact RO.fin (by kernel_rfl) ⟨zA, zB, zC, zD, rfl, ⟨rfl, rfl, rfl, rfl, rfl, rfl, rfl, trivial⟩⟩ (by exact Sub.pull [oI zD 23 [(.slice (some ⟨zB, 0, none⟩) p.next.length p.next.length)]] _ (.k (.k (.k (.k (.k (.k (.k .rf))))))))
        refine RO.fork [6] (by kernel_rfl) rfl ⟨⟨_, rfl, rfl, l_alloc inf23 rfl (fun zC => ⟨by exact Sub.d (.d (.d (.d (.d (.d (.k .z)))))), ?_⟩)⟩, trivial⟩
        refine RO.fork [8] (by kernel_rfl) rfl ⟨⟨_, rfl, rfl, l_sb (v := (.slice (some ⟨zA, 0, none⟩) p.next.length p.next.length)) (vs := [(.slice (some ⟨zA, 0, none⟩) p.next.length p.next.length)]) 0 inf23 rfl rfl rfl rfl rfl rfl (by simp [putL]) ⟨by exact Sub.d (.d (.d (.d (.d (.d (.k .z)))))), ?_⟩⟩, trivial⟩
        refine RO.fork [9] (by kernel_rfl) rfl ⟨⟨_, rfl, rfl, l_sb (v := (.slice (some ⟨zB, 0, none⟩) p.next.length p.next.length)) (vs := [(.slice (some ⟨zB, 0, none⟩) p.next.length p.next.length)]) 1 inf23 rfl rfl rfl rfl rfl rfl (by simp [putL]) ⟨by exact Sub.d (.d (.d (.d (.d (.d (.k .z)))))), ?_⟩⟩, trivial⟩
        exact RO.fin (by kernel_rfl) ⟨zA, zB, zC, zD, rfl, ⟨rfl, rfl, rfl, rfl, rfl, rfl, rfl, trivial⟩⟩ (by exact Sub.rf)
      · refine RO.fork [2, 7] (by kernel_rfl) rfl ⟨⟨_, rfl, rfl, l_makeSlice (m := p.next.length) underlying23 inf3 rfl rfl (by omega) (by omega) (fun zA => ⟨by exact Sub.d (.d (.d (.d (.d (.k .z))))), ?_⟩)⟩, ⟨_, rfl, rfl, l_alloc inf23 rfl (fun zD => ⟨by exact Sub.d (.d (.d (.d (.d (.k .z))))), ?_⟩)⟩, trivial⟩
        · refine RO.fork [7] (by kernel_rfl) rfl ⟨⟨_, rfl, rfl, l_alloc inf23 rfl (fun zD => ⟨by exact Sub.d (.d (.d (.d (.d (.d (.k .z)))))), ?_⟩)⟩, trivial⟩
          refine RO.fork [8] (by kernel_rfl) rfl ⟨⟨_, rfl, rfl, l_sb (v := (.slice (some ⟨zA, 0, none⟩) p.next.length p.next.length)) (vs := [(.slice (some ⟨zA, 0, none⟩) p.next.length p.next.length)]) 2 inf23 rfl rfl rfl rfl rfl rfl (by simp [putL]) ⟨by exact Sub.d (.d (.d (.d (.d (.d (.k .z)))))), ?_⟩⟩, trivial⟩
          refine RO.fork [9] (by kernel_rfl) rfl ⟨⟨_, rfl, rfl, l_sb (v := (.slice (some ⟨zB, 0, none⟩) p.next.length p.next.length)) (vs := [(.slice (some ⟨zB, 0, none⟩) p.next.length p.next.length)]) 0 inf23 rfl rfl rfl rfl rfl rfl (by simp [putL]) ⟨by exact Sub.d (.d (.d (.d (.d (.d (.k .z)))))), ?_⟩⟩, trivial⟩
          exact RO.fin (by kernel_rfl) ⟨zA, zB, zC, zD, rfl, ⟨rfl, rfl, rfl, rfl, rfl, rfl, rfl, trivial⟩⟩ (by exact Sub.pull [oI zD 23 [(.slice (some ⟨zB, 0, none⟩) p.next.length p.next.length)], rowI (some ⟨zA, 0, none⟩) p.next.length 3 1 (List.replicate p.next.length (.int .i64 0))] _ (.k (.k (.k (.k (.k (.k (.k .rf))))))))
        refine RO.fork [2] (by kernel_rfl) rfl ⟨⟨_, rfl, rfl, l_makeSlice (m := p.next.length) underlying23 inf3 rfl rfl (by omega) (by omega) (fun zA => ⟨by exact Sub.d (.d (.d (.d (.d (.d (.k .z)))))), ?_⟩)⟩, trivial⟩
        refine RO.fork [8] (by kernel_rfl) rfl ⟨⟨_, rfl, rfl, l_sb (v := (.slice (some ⟨zA, 0, none⟩) p.next.length p.next.length)) (vs := [(.slice (some ⟨zA, 0, none⟩) p.next.length p.next.length)]) 2 inf23 rfl rfl rfl rfl rfl rfl (by simp [putL]) ⟨by exact Sub.d (.d (.d (.d (.d (.d (.k .z)))))), ?_⟩⟩, trivial⟩
        refine RO.fork [9] (by kernel_rfl) rfl ⟨⟨_, rfl, rfl, l_sb (v := (.slice (some ⟨zB, 0, none⟩) p.next.length p.next.length)) (vs := [(.slice (some ⟨zB, 0, none⟩) p.next.length p.next.length)]) 1 inf23 rfl rfl rfl rfl rfl rfl (by simp [putL]) ⟨by exact Sub.d (.d (.d (.d (.d (.d (.k .z)))))), ?_⟩⟩, trivial⟩
        exact RO.fin (by kernel_rfl) ⟨zA, zB, zC, zD, rfl, ⟨rfl, rfl, rfl, rfl, rfl, rfl, rfl, trivial⟩⟩ (by exact Sub.pull [rowI (some ⟨zA, 0, none⟩) p.next.length 3 1 (List.replicate p.next.length (.int .i64 0)), oI zD 23 [(.slice (some ⟨zB, 0, none⟩) p.next.length p.next.length)]] _ (.pull [rowI (some ⟨zA, 0, none⟩) p.next.length 3 1 (List.replicate p.next.length (.int .i64 0))] _ (.k (.k (.k (.k (.k (.k .rf))))))))
      refine RO.fork [2, 6] (by kernel_rfl) rfl ⟨⟨_, rfl, rfl, l_makeSlice (m := p.next.length) underlying23 inf3 rfl rfl (by omega) (by omega) (fun zA => ⟨by exact Sub.d (.d (.d (.d (.d (.k .z))))), ?_⟩)⟩, ⟨_, rfl, rfl, l_alloc inf23 rfl (fun zC => ⟨by exact Sub.d (.d (.d (.d (.d (.k .z))))), ?_⟩)⟩, trivial⟩
      · refine RO.fork [6] (by kernel_rfl) rfl ⟨⟨_, rfl, rfl, l_alloc inf23 rfl (fun zC => ⟨by exact Sub.d (.d (.d (.d (.d (.d (.k .z)))))), ?_⟩)⟩, trivial⟩
        refine RO.fork [8] (by kernel_rfl) rfl ⟨⟨_, rfl, rfl, l_sb (v := (.slice (some ⟨zA, 0, none⟩) p.next.length p.next.length)) (vs := [(.slice (some ⟨zA, 0, none⟩) p.next.length p.next.length)]) 0 inf23 rfl rfl rfl rfl rfl rfl (by simp [putL]) ⟨by exact Sub.d (.d (.d (.d (.d (.d (.k .z)))))), ?_⟩⟩, trivial⟩
        refine RO.fork [9] (by kernel_rfl) rfl ⟨⟨_, rfl, rfl, l_sb (v := (.slice (some ⟨zB, 0, none⟩) p.next.length p.next.length)) (vs := [(.slice (some ⟨zB, 0, none⟩) p.next.length p.next.length)]) 2 inf23 rfl rfl rfl rfl rfl rfl (by simp [putL]) ⟨by exact Sub.d (.d (.d (.d (.d (.d (.k .z)))))), ?_⟩⟩, trivial⟩
        exact RO.fin (by kernel_rfl) ⟨zA, zB, zC, zD, rfl, ⟨rfl, rfl, rfl, rfl, rfl, rfl, rfl, trivial⟩⟩ (by exact Sub.k (.pull [rowI (some ⟨zA, 0, none⟩) p.next.length 3 1 (List.replicate p.next.length (.int .i64 0))] _ (.k (.k (.k (.k (.k (.k .rf))))))))
      refine RO.fork [2] (by kernel_rfl) rfl ⟨⟨_, rfl, rfl, l_makeSlice (m := p.next.length) underlying23 inf3 rfl rfl (by omega) (by omega) (fun zA => ⟨by exact Sub.d (.d (.d (.d (.d (.d (.k .z)))))), ?_⟩)⟩, trivial⟩
      refine RO.fork [8] (by kernel_rfl) rfl ⟨⟨_, rfl, rfl, l_sb (v := (.slice (some ⟨zA, 0, none⟩) p.next.length p.next.length)) (vs := [(.slice (some ⟨zA, 0, none⟩) p.next.length p.next.length)]) 1 inf23 rfl rfl rfl rfl rfl rfl (by simp [putL]) ⟨by exact Sub.d (.d (.d (.d (.d (.d (.k .z)))))), ?_⟩⟩, trivial⟩
      refine RO.fork [9] (by kernel_rfl) rfl ⟨⟨_, rfl, rfl, l_sb (v := (.slice (some ⟨zB, 0, none⟩) p.next.length p.next.length)) (vs := [(.slice (some ⟨zB, 0, none⟩) p.next.length p.next.length)]) 2 inf23 rfl rfl rfl rfl rfl rfl (by simp [putL]) ⟨by exact Sub.d (.d (.d (.d (.d (.d (.k .z)))))), ?_⟩⟩, trivial⟩
      exact RO.fin (by kernel_rfl) ⟨zA, zB, zC, zD, rfl, ⟨rfl, rfl, rfl, rfl, rfl, rfl, rfl, trivial⟩⟩ (by exact Sub.pull [rowI (some ⟨zA, 0, none⟩) p.next.length 3 1 (List.replicate p.next.length (.int .i64 0))] _ (.pull [rowI (some ⟨zA, 0, none⟩) p.next.length 3 1 (List.replicate p.next.length (.int .i64 0))] _ (.k (.k (.k (.k (.k (.k .rf))))))))
    · refine RO.fork [2, 5, 7] (by kernel_rfl) rfl ⟨⟨_, rfl, rfl, l_makeSlice (m := p.next.length) underlying23 inf3 rfl rfl (by omega) (by omega) (fun zA => ⟨by exact Sub.d (.d (.d (.d (.k .z)))), ?_⟩)⟩, ⟨_, rfl, rfl, l_makeSlice (m := p.next.length) underlying23 inf3 rfl rfl (by omega) (by omega) (fun zB => ⟨by exact Sub.d (.d (.d (.d (.k .z)))), ?_⟩)⟩, ⟨_, rfl, rfl, l_alloc inf23 rfl (fun zD => ⟨by exact Sub.d (.d (.d (.d (.k .z)))), ?_⟩)⟩, trivial⟩
      · refine RO.fork [5, 7] (by kernel_rfl) rfl ⟨⟨_, rfl, rfl, l_makeSlice (m := p.next.length) underlying23 inf3 rfl rfl (by omega) (by omega) (fun zB => ⟨by exact Sub.d (.d (.d (.d (.d (.k .z))))), ?_⟩)⟩, ⟨_, rfl, rfl, l_alloc inf23 rfl (fun zD => ⟨by exact Sub.d (.d (.d (.d (.d (.k .z))))), ?_⟩)⟩, trivial⟩
        · refine RO.fork [7] (by kernel_rfl) rfl ⟨⟨_, rfl, rfl, l_alloc inf23 rfl (fun zD => ⟨by exact Sub.d (.d (.d (.d (.d (.d (.k .z)))))), ?_⟩)⟩, trivial⟩
          refine RO.fork [8] (by kernel_rfl) rfl ⟨⟨_, rfl, rfl, l_sb (v := (.slice (some ⟨zA, 0, none⟩) p.next.length p.next.length)) (vs := [(.slice (some ⟨zA, 0, none⟩) p.next.length p.next.length)]) 3 inf23 rfl rfl rfl rfl rfl rfl (by simp [putL]) ⟨by exact Sub.d (.d (.d (.d (.d (.d (.k .z)))))), ?_⟩⟩, trivial⟩
          refine RO.fork [9] (by kernel_rfl) rfl ⟨⟨_, rfl, rfl, l_sb (v := (.slice (some ⟨zB, 0, none⟩) p.next.length p.next.length)) (vs := [(.slice (some ⟨zB, 0, none⟩) p.next.length p.next.length)]) 0 inf23 rfl rfl rfl rfl rfl rfl (by simp [putL]) ⟨by exact Sub.d (.d (.d (.d (.d (.d (.k .z)))))), ?_⟩⟩, trivial⟩
          exact RO.fin (by kernel_rfl) ⟨zA, zB, zC, zD, rfl, ⟨rfl, rfl, rfl, rfl, rfl, rfl, rfl, trivial⟩⟩ (by exact Sub.pull [oI zD 23 [(.slice (some ⟨zB, 0, none⟩) p.next.length p.next.length)], rowI (some ⟨zB, 0, none⟩) p.next.length 3 1 (List.replicate p.next.length (.int .i64 0)), rowI (some ⟨zA, 0, none⟩) p.next.length 3 1 (List.replicate p.next.length (.int .i64 0))] _ (.k (.pull [rowI (some ⟨zB, 0, none⟩) p.next.length 3 1 (List.replicate p.next.length (.int .i64 0))] _ (.k (.k (.k (.k (.k .rf))))))))
        refine RO.fork [5, 8] (by kernel_rfl) rfl ⟨⟨_, rfl, rfl, l_makeSlice (m := p.next.length) underlying23 inf3 rfl rfl (by omega) (by omega) (fun zB => ⟨by exact Sub.d (.d (.d (.d (.d (.d (.k .z)))))), ?_⟩)⟩, ⟨_, rfl, rfl, l_sb (v := (.slice (some ⟨zA, 0, none⟩) p.next.length p.next.length)) (vs := [(.slice (some ⟨zA, 0, none⟩) p.next.length p.next.length)]) 2 inf23 rfl rfl rfl rfl rfl rfl (by simp [putL]) ⟨by exact Sub.d (.d (.d (.d (.d (.k .z))))), ?_⟩⟩, trivial⟩
        · refine RO.fork [8] (by kernel_rfl) rfl ⟨⟨_, rfl, rfl, l_sb (v := (.slice (some ⟨zA, 0, none⟩) p.next.length p.next.length)) (vs := [(.slice (some ⟨zA, 0, none⟩) p.next.length p.next.length)]) 3 inf23 rfl rfl rfl rfl rfl rfl (by simp [putL]) ⟨by exact Sub.d (.d (.d (.d (.d (.d (.k .z)))))), ?_⟩⟩, trivial⟩
          refine RO.fork [9] (by kernel_rfl) rfl ⟨⟨_, rfl, rfl, l_sb (v := (.slice (some ⟨zB, 0, none⟩) p.next.length p.next.length)) (vs := [(.slice (some ⟨zB, 0, none⟩) p.next.length p.next.length)]) 1 inf23 rfl rfl rfl rfl rfl rfl (by simp [putL]) ⟨by exact Sub.d (.d (.d (.d (.d (.d (.k .z)))))), ?_⟩⟩, trivial⟩
          exact RO.fin (by kernel_rfl) ⟨zA, zB, zC, zD, rfl, ⟨rfl, rfl, rfl, rfl, rfl, rfl, rfl, trivial⟩⟩ (by exact Sub.pull [rowI (some ⟨zB, 0, none⟩) p.next.length 3 1 (List.replicate p.next.length (.int .i64 0)), oI zD 23 [(.slice (some ⟨zB, 0, none⟩) p.next.length p.next.length)], rowI (some ⟨zA, 0, none⟩) p.next.length 3 1 (List.replicate p.next.length (.int .i64 0))] _ (.pull [rowI (some ⟨zB, 0, none⟩) p.next.length 3 1 (List.replicate p.next.length (.int .i64 0))] _ (.pull [rowI (some ⟨zB, 0, none⟩) p.next.length 3 1 (List.replicate p.next.length (.int .i64 0))] _ (.k (.k (.k (.k (.k .rf))))))))
        refine RO.fork [5] (by kernel_rfl) rfl ⟨⟨_, rfl, rfl, l_makeSlice (m := p.next.length) underlying23 inf3 rfl rfl (by omega) (by omega) (fun zB => ⟨by exact Sub.d (.d (.d (.d (.d (.d (.k .z)))))), ?_⟩)⟩, trivial⟩
        refine RO.fork [9] (by kernel_rfl) rfl ⟨⟨_, rfl, rfl, l_sb (v := (.slice (some ⟨zB, 0, none⟩) p.next.length p.next.length)) (vs := [(.slice (some ⟨zB, 0, none⟩) p.next.length p.next.length)]) 1 inf23 rfl rfl rfl rfl rfl rfl (by simp [putL]) ⟨by exact Sub.d (.d (.d (.d (.d (.d (.k .z)))))), ?_⟩⟩, trivial⟩
        exact RO.fin (by kernel_rfl) ⟨zA, zB, zC, zD, rfl, ⟨rfl, rfl, rfl, rfl, rfl, rfl, rfl, trivial⟩⟩ (by exact Sub.pull [rowI (some ⟨zB, 0, none⟩) p.next.length 3 1 (List.replicate p.next.length (.int .i64 0)), oI zD 23 [(.slice (some ⟨zB, 0, none⟩) p.next.length p.next.length)], rowI (some ⟨zA, 0, none⟩) p.next.length 3 1 (List.replicate p.next.length (.int .i64 0))] _ (.pull [rowI (some ⟨zB, 0, none⟩) p.next.length 3 1 (List.replicate p.next.length (.int .i64 0))] _ (.pull [rowI (some ⟨zB, 0, none⟩) p.next.length 3 1 (List.replicate p.next.length (.int .i64 0))] _ (.k (.k (.k (.k (.k .rf))))))))
      · refine RO.fork [2, 7] (by kernel_rfl) rfl ⟨⟨_, rfl, rfl, l_makeSlice (m := p.next.length) underlying23 inf3 rfl rfl (by omega) (by omega) (fun zA => ⟨by exact Sub.d (.d (.d (.d (.d (.k .z))))), ?_⟩)⟩, ⟨_, rfl, rfl, l_alloc inf23 rfl (fun zD => ⟨by exact Sub.d (.d (.d (.d (.d (.k .z))))), ?_⟩)⟩, trivial⟩
        · refine RO.fork [7] (by kernel_rfl) rfl ⟨⟨_, rfl, rfl, l_alloc inf23 rfl (fun zD => ⟨by exact Sub.d (.d (.d (.d (.d (.d (.k .z)))))), ?_⟩)⟩, trivial⟩
          refine RO.fork [8] (by kernel_rfl) rfl ⟨⟨_, rfl, rfl, l_sb (v := (.slice (some ⟨zA, 0, none⟩) p.next.length p.next.length)) (vs := [(.slice (some ⟨zA, 0, none⟩) p.next.length p.next.length)]) 3 inf23 rfl rfl rfl rfl rfl rfl (by simp [putL]) ⟨by exact Sub.d (.d (.d (.d (.d (.d (.k .z)))))), ?_⟩⟩, trivial⟩
          refine RO.fork [9] (by kernel_rfl) rfl ⟨⟨_, rfl, rfl, l_sb (v := (.slice (some ⟨zB, 0, none⟩) p.next.length p.next.length)) (vs := [(.slice (some ⟨zB, 0, none⟩) p.next.length p.next.length)]) 0 inf23 rfl rfl rfl rfl rfl rfl (by simp [putL]) ⟨by exact Sub.d (.d (.d (.d (.d (.d (.k .z)))))), ?_⟩⟩, trivial⟩
          exact RO.fin (by kernel_rfl) ⟨zA, zB, zC, zD, rfl, ⟨rfl, rfl, rfl, rfl, rfl, rfl, rfl, trivial⟩⟩ (by exact Sub.pull [oI zD 23 [(.slice (some ⟨zB, 0, none⟩) p.next.length p.next.length)], rowI (some ⟨zA, 0, none⟩) p.next.length 3 1 (List.replicate p.next.length (.int .i64 0)), rowI (some ⟨zB, 0, none⟩) p.next.length 3 1 (List.replicate p.next.length (.int .i64 0))] _ (.k (.k (.k (.k (.k (.k (.k .rf))))))))
        refine RO.fork [2] (by kernel_rfl) rfl ⟨⟨_, rfl, rfl, l_makeSlice (m := p.next.length) underlying23 inf3 rfl rfl (by omega) (by omega) (fun zA => ⟨by exact Sub.d (.d (.d (.d (.d (.d (.k .z)))))), ?_⟩)⟩, trivial⟩
        refine RO.fork [8] (by kernel_rfl) rfl ⟨⟨_, rfl, rfl, l_sb (v := (.slice (some ⟨zA, 0, none⟩) p.next.length p.next.length)) (vs := [(.slice (some ⟨zA, 0, none⟩) p.next.length p.next.length)]) 3 inf23 rfl rfl rfl rfl rfl rfl (by simp [putL]) ⟨by exact Sub.d (.d (.d (.d (.d (.d (.k .z)))))), ?_⟩⟩, trivial⟩
        refine RO.fork [9] (by kernel_rfl) rfl ⟨⟨_, rfl, rfl, l_sb (v := (.slice (some ⟨zB, 0, none⟩) p.next.length p.next.length)) (vs := [(.slice (some ⟨zB, 0, none⟩) p.next.length p.next.length)]) 1 inf23 rfl rfl rfl rfl rfl rfl (by simp [putL]) ⟨by exact Sub.d (.d (.d (.d (.d (.d (.k .z)))))), ?_⟩⟩, trivial⟩
        exact RO.fin (by kernel_rfl) ⟨zA, zB, zC, zD, rfl, ⟨rfl, rfl, rfl, rfl, rfl, rfl, rfl, trivial⟩⟩ (by exact Sub.pull [rowI (some ⟨zA, 0, none⟩) p.next.length 3 1 (List.replicate p.next.length (.int .i64 0)), oI zD 23 [(.slice (some ⟨zB, 0, none⟩) p.next.length p.next.length)], rowI (some ⟨zB, 0, none⟩) p.next.length 3 1 (List.replicate p.next.length (.int .i64 0))] _ (.pull [rowI (some ⟨zA, 0, none⟩) p.next.length 3 1 (List.replicate p.next.length (.int .i64 0))] _ (.k (.k (.k (.k (.k (.k .rf))))))))
      refine RO.fork [2, 5] (by kernel_rfl) rfl ⟨⟨_, rfl, rfl, l_makeSlice (m := p.next.length) underlying23 inf3 rfl rfl (by omega) (by omega) (fun zA => ⟨by exact Sub.d (.d (.d (.d (.d (.k .z))))), ?_⟩)⟩, ⟨_, rfl, rfl, l_makeSlice (m := p.next.length) underlying23 inf3 rfl rfl (by omega) (by omega) (fun zB => ⟨by exact Sub.d (.d (.d (.d (.d (.k .z))))), ?_⟩)⟩, trivial⟩
      · refine RO.fork [5, 8] (by kernel_rfl) rfl ⟨⟨_, rfl, rfl, l_makeSlice (m := p.next.length) underlying23 inf3 rfl rfl (by omega) (by omega) (fun zB => ⟨by exact Sub.d (.d (.d (.d (.d (.d (.k .z)))))), ?_⟩)⟩, ⟨_, rfl, rfl, l_sb (v := (.slice (some ⟨zA, 0, none⟩) p.next.length p.next.length)) (vs := [(.slice (some ⟨zA, 0, none⟩) p.next.length p.next.length)]) 2 inf23 rfl rfl rfl rfl rfl rfl (by simp [putL]) ⟨by exact Sub.d (.d (.d (.d (.d (.k .z))))), ?_⟩⟩, trivial⟩
        · refine RO.fork [8] (by kernel_rfl) rfl ⟨⟨_, rfl, rfl, l_sb (v := (.slice (some ⟨zA, 0, none⟩) p.next.length p.next.length)) (vs := [(.slice (some ⟨zA, 0, none⟩) p.next.length p.next.length)]) 3 inf23 rfl rfl rfl rfl rfl rfl (by simp [putL]) ⟨by exact Sub.d (.d (.d (.d (.d (.d (.k .z)))))), ?_⟩⟩, trivial⟩
          refine RO.fork [9] (by kernel_rfl) rfl ⟨⟨_, rfl, rfl, l_sb (v := (.slice (some ⟨zB, 0, none⟩) p.next.length p.next.length)) (vs := [(.slice (some ⟨zB, 0, none⟩) p.next.length p.next.length)]) 2 inf23 rfl rfl rfl rfl rfl rfl (by simp [putL]) ⟨by exact Sub.d (.d (.d (.d (.d (.d (.k .z)))))), ?_⟩⟩, trivial⟩
          exact RO.fin (by kernel_rfl) ⟨zA, zB, zC, zD, rfl, ⟨rfl, rfl, rfl, rfl, rfl, rfl, rfl, trivial⟩⟩ (by exact Sub.pull [rowI (some ⟨zB, 0, none⟩) p.next.length 3 1 (List.replicate p.next.length (.int .i64 0)), rowI (some ⟨zA, 0, none⟩) p.next.length 3 1 (List.replicate p.next.length (.int .i64 0)), oI zD 23 [(.slice (some ⟨zB, 0, none⟩) p.next.length p.next.length)]] _ (.pull [rowI (some ⟨zB, 0, none⟩) p.next.length 3 1 (List.replicate p.next.length (.int .i64 0)), rowI (some ⟨zA, 0, none⟩) p.next.length 3 1 (List.replicate p.next.length (.int .i64 0))] _ (.pull [rowI (some ⟨zB, 0, none⟩) p.next.length 3 1 (List.replicate p.next.length (.int .i64 0))] _ (.k (.k (.k (.k (.k .rf))))))))
        refine RO.fork [5] (by kernel_rfl) rfl ⟨⟨_, rfl, rfl, l_makeSlice (m := p.next.length) underlying23 inf3 rfl rfl (by omega) (by omega) (fun zB => ⟨by exact Sub.d (.d (.d (.d (.d (.d (.k .z)))))), ?_⟩)⟩, trivial⟩
        refine RO.fork [9] (by kernel_rfl) rfl ⟨⟨_, rfl, rfl, l_sb (v := (.slice (some ⟨zB, 0, none⟩) p.next.length p.next.length)) (vs := [(.slice (some ⟨zB, 0, none⟩) p.next.length p.next.length)]) 2 inf23 rfl rfl rfl rfl rfl rfl (by simp [putL]) ⟨by exact Sub.d (.d (.d (.d (.d (.d (.k .z)))))), ?_⟩⟩, trivial⟩
        exact RO.fin (by kernel_rfl) ⟨zA, zB, zC, zD, rfl, ⟨rfl, rfl, rfl, rfl, rfl, rfl, rfl, trivial⟩⟩ (by exact Sub.pull [rowI (some ⟨zB, 0, none⟩) p.next.length 3 1 (List.replicate p.next.length (.int .i64 0)), rowI (some ⟨zA, 0, none⟩) p.next.length 3 1 (List.replicate p.next.length (.int .i64 0)), oI zD 23 [(.slice (some ⟨zB, 0, none⟩) p.next.length p.next.length)]] _ (.pull [rowI (some ⟨zB, 0, none⟩) p.next.length 3 1 (List.replicate p.next.length (.int .i64 0)), rowI (some ⟨zA, 0, none⟩) p.next.length 3 1 (List.replicate p.next.length (.int .i64 0))] _ (.pull [rowI (some ⟨zB, 0, none⟩) p.next.length 3 1 (List.replicate p.next.length (.int .i64 0))] _ (.k (.k (.k (.k (.k .rf))))))))
      refine RO.fork [2] (by kernel_rfl) rfl ⟨⟨_, rfl, rfl, l_makeSlice (m := p.next.length) underlying23 inf3 rfl rfl (by omega) (by omega) (fun zA => ⟨by exact Sub.d (.d (.d (.d (.d (.d (.k .z)))))), ?_⟩)⟩, trivial⟩
      refine RO.fork [8] (by kernel_rfl) rfl ⟨⟨_, rfl, rfl, l_sb (v := (.slice (some ⟨zA, 0, none⟩) p.next.length p.next.length)) (vs := [(.slice (some ⟨zA, 0, none⟩) p.next.length p.next.length)]) 3 inf23 rfl rfl rfl rfl rfl rfl (by simp [putL]) ⟨by exact Sub.d (.d (.d (.d (.d (.d (.k .z)))))), ?_⟩⟩, trivial⟩
      refine RO.fork [9] (by kernel_rfl) rfl ⟨⟨_, rfl, rfl, l_sb (v := (.slice (some ⟨zB, 0, none⟩) p.next.length p.next.length)) (vs := [(.slice (some ⟨zB, 0, none⟩) p.next.length p.next.length)]) 2 inf23 rfl rfl rfl rfl rfl rfl (by simp [putL]) ⟨by exact Sub.d (.d (.d (.d (.d (.d (.k .z)))))), ?_⟩⟩, trivial⟩
      exact RO.fin (by kernel_rfl) ⟨zA, zB, zC, zD, rfl, ⟨rfl, rfl, rfl, rfl, rfl, rfl, rfl, trivial⟩⟩ (by exact Sub.pull [rowI (some ⟨zA, 0, none⟩) p.next.length 3 1 (List.replicate p.next.length (.int .i64 0)), rowI (some ⟨zB, 0, none⟩) p.next.length 3 1 (List.replicate p.next.length (.int .i64 0)), oI zD 23 [(.slice (some ⟨zB, 0, none⟩) p.next.length p.next.length)]] _ (.pull [rowI (some ⟨zA, 0, none⟩) p.next.length 3 1 (List.replicate p.next.length (.int .i64 0)), rowI (some ⟨zB, 0, none⟩) p.next.length 3 1 (List.replicate p.next.length (.int .i64 0))] _ (.k (.k (.k (.k (.k (.k .rf))))))))
    refine RO.fork [2, 5, 6] (by kernel_rfl) rfl ⟨⟨_, rfl, rfl, l_makeSlice (m := p.next.length) underlying23 inf3 rfl rfl (by omega) (by omega) (fun zA => ⟨by exact Sub.d (.d (.d (.d (.k .z)))), ?_⟩)⟩, ⟨_, rfl, rfl, l_makeSlice (m := p.next.length) underlying23 inf3 rfl rfl (by omega) (by omega) (fun zB => ⟨by exact Sub.d (.d (.d (.d (.k .z)))), ?_⟩)⟩, ⟨_, rfl, rfl, l_alloc inf23 rfl (fun zC => ⟨by exact Sub.d (.d (.d (.d (.k .z)))), ?_⟩)⟩, trivial⟩
    · refine RO.fork [5, 6] (by kernel_rfl) rfl ⟨⟨_, rfl, rfl, l_makeSlice (m := p.next.length) underlying23 inf3 rfl rfl (by omega) (by omega) (fun zB => ⟨by exact Sub.d (.d (.d (.d (.d (.k .z))))), ?_⟩)⟩, ⟨_, rfl, rfl, l_alloc inf23 rfl (fun zC => ⟨by exact Sub.d (.d (.d (.d (.d (.k .z))))), ?_⟩)⟩, trivial⟩
      · refine RO.fork [6] (by kernel_rfl) rfl ⟨⟨_, rfl, rfl, l_alloc inf23 rfl (fun zC => ⟨by exact Sub.d (.d (.d (.d (.d (.d (.k .z)))))), ?_⟩)⟩, trivial⟩
        refine RO.fork [8] (by kernel_rfl) rfl ⟨⟨_, rfl, rfl, l_sb (v := (.slice (some ⟨zA, 0, none⟩) p.next.length p.next.length)) (vs := [(.slice (some ⟨zA, 0, none⟩) p.next.length p.next.length)]) 0 inf23 rfl rfl rfl rfl rfl rfl (by simp [putL]) ⟨by exact Sub.d (.d (.d (.d (.d (.d (.k .z)))))), ?_⟩⟩, trivial⟩
        refine RO.fork [9] (by kernel_rfl) rfl ⟨⟨_, rfl, rfl, l_sb (v := (.slice (some ⟨zB, 0, none⟩) p.next.length p.next.length)) (vs := [(.slice (some ⟨zB, 0, none⟩) p.next.length p.next.length)]) 3 inf23 rfl rfl rfl rfl rfl rfl (by simp [putL]) ⟨by exact Sub.d (.d (.d (.d (.d (.d (.k .z)))))), ?_⟩⟩, trivial⟩
        exact RO.fin (by kernel_rfl) ⟨zA, zB, zC, zD, rfl, ⟨rfl, rfl, rfl, rfl, rfl, rfl, rfl, trivial⟩⟩ (by exact Sub.k (.pull [rowI (some ⟨zB, 0, none⟩) p.next.length 3 1 (List.replicate p.next.length (.int .i64 0)), rowI (some ⟨zA, 0, none⟩) p.next.length 3 1 (List.replicate p.next.length (.int .i64 0))] _ (.pull [rowI (some ⟨zB, 0, none⟩) p.next.length 3 1 (List.replicate p.next.length (.int .i64 0))] _ (.k (.k (.k (.k (.k .rf))))))))
      refine RO.fork [5, 8] (by kernel_rfl) rfl ⟨⟨_, rfl, rfl, l_makeSlice (m := p.next.length) underlying23 inf3 rfl rfl (by omega) (by omega) (fun zB => ⟨by exact Sub.d (.d (.d (.d (.d (.d (.k .z)))))), ?_⟩)⟩, ⟨_, rfl, rfl, l_sb (v := (.slice (some ⟨zA, 0, none⟩) p.next.length p.next.length)) (vs := [(.slice (some ⟨zA, 0, none⟩) p.next.length p.next.length)]) 0 inf23 rfl rfl rfl rfl rfl rfl (by simp [putL]) ⟨by exact Sub.d (.d (.d (.d (.d (.k .z))))), ?_⟩⟩, trivial⟩
      · refine RO.fork [8] (by kernel_rfl) rfl ⟨⟨_, rfl, rfl, l_sb (v := (.slice (some ⟨zA, 0, none⟩) p.next.length p.next.length)) (vs := [(.slice (some ⟨zA, 0, none⟩) p.next.length p.next.length)]) 1 inf23 rfl rfl rfl rfl rfl rfl (by simp [putL]) ⟨by exact Sub.d (.d (.d (.d (.d (.d (.k .z)))))), ?_⟩⟩, trivial⟩
        refine RO.fork [9] (by kernel_rfl) rfl ⟨⟨_, rfl, rfl, l_sb (v := (.slice (some ⟨zB, 0, none⟩) p.next.length p.next.length)) (vs := [(.slice (some ⟨zB, 0, none⟩) p.next.length p.next.length)]) 3 inf23 rfl rfl rfl rfl rfl rfl (by simp [putL]) ⟨by exact Sub.d (.d (.d (.d (.d (.d (.k .z)))))), ?_⟩⟩, trivial⟩
        exact RO.fin (by kernel_rfl) ⟨zA, zB, zC, zD, rfl, ⟨rfl, rfl, rfl, rfl, rfl, rfl, rfl, trivial⟩⟩ (by exact Sub.pull [rowI (some ⟨zB, 0, none⟩) p.next.length 3 1 (List.replicate p.next.length (.int .i64 0))] _ (.pull [rowI (some ⟨zB, 0, none⟩) p.next.length 3 1 (List.replicate p.next.length (.int .i64 0)), rowI (some ⟨zA, 0, none⟩) p.next.length 3 1 (List.replicate p.next.length (.int .i64 0))] _ (.pull [rowI (some ⟨zB, 0, none⟩) p.next.length 3 1 (List.replicate p.next.length (.int .i64 0))] _ (.k (.k (.k (.k (.k .rf))))))))
      refine RO.fork [5] (by kernel_rfl) rfl ⟨⟨_, rfl, rfl, l_makeSlice (m := p.next.length) underlying23 inf3 rfl rfl (by omega) (by omega) (fun zB => ⟨by exact Sub.d (.d (.d (.d (.d (.d (.k .z)))))), ?_⟩)⟩, trivial⟩
      refine RO.fork [9] (by kernel_rfl) rfl ⟨⟨_, rfl, rfl, l_sb (v := (.slice (some ⟨zB, 0, none⟩) p.next.length p.next.length)) (vs := [(.slice (some ⟨zB, 0, none⟩) p.next.length p.next.length)]) 3 inf23 rfl rfl rfl rfl rfl rfl (by simp [putL]) ⟨by exact Sub.d (.d (.d (.d (.d (.d (.k .z)))))), ?_⟩⟩, trivial⟩
      exact RO.fin (by kernel_rfl) ⟨zA, zB, zC, zD, rfl, ⟨rfl, rfl, rfl, rfl, rfl, rfl, rfl, trivial⟩⟩ (by exact Sub.pull [rowI (some ⟨zB, 0, none⟩) p.next.length 3 1 (List.replicate p.next.length (.int .i64 0))] _ (.pull [rowI (some ⟨zB, 0, none⟩) p.next.length 3 1 (List.replicate p.next.length (.int .i64 0)), rowI (some ⟨zA, 0, none⟩) p.next.length 3 1 (List.replicate p.next.length (.int .i64 0))] _ (.pull [rowI (some ⟨zB, 0, none⟩) p.next.length 3 1 (List.replicate p.next.length (.int .i64 0))] _ (.k (.k (.k (.k (.k .rf))))))))
    · refine RO.fork [2, 6] (by kernel_rfl) rfl ⟨⟨_, rfl, rfl, l_makeSlice (m := p.next.length) underlying23 inf3 rfl rfl (by omega) (by omega) (fun zA => ⟨by exact Sub.d (.d (.d (.d (.d (.k .z))))), ?_⟩)⟩, ⟨_, rfl, rfl, l_alloc inf23 rfl (fun zC => ⟨by exact Sub.d (.d (.d (.d (.d (.k .z))))), ?_⟩)⟩, trivial⟩
      · refine RO.fork [6] (by kernel_rfl) rfl ⟨⟨_, rfl, rfl, l_alloc inf23 rfl (fun zC => ⟨by exact Sub.d (.d (.d (.d (.d (.d (.k .z)))))), ?_⟩)⟩, trivial⟩
        refine RO.fork [8] (by kernel_rfl) rfl ⟨⟨_, rfl, rfl, l_sb (v := (.slice (some ⟨zA, 0, none⟩) p.next.length p.next.length)) (vs := [(.slice (some ⟨zA, 0, none⟩) p.next.length p.next.length)]) 0 inf23 rfl rfl rfl rfl rfl rfl (by simp [putL]) ⟨by exact Sub.d (.d (.d (.d (.d (.d (.k .z)))))), ?_⟩⟩, trivial⟩
        refine RO.fork [9] (by kernel_rfl) rfl ⟨⟨_, rfl, rfl, l_sb (v := (.slice (some ⟨zB, 0, none⟩) p.next.length p.next.length)) (vs := [(.slice (some ⟨zB, 0, none⟩) p.next.length p.next.length)]) 3 inf23 rfl rfl rfl rfl rfl rfl (by simp [putL]) ⟨by exact Sub.d (.d (.d (.d (.d (.d (.k .z)))))), ?_⟩⟩, trivial⟩
        exact RO.fin (by kernel_rfl) ⟨zA, zB, zC, zD, rfl, ⟨rfl, rfl, rfl, rfl, rfl, rfl, rfl, trivial⟩⟩ (by exact Sub.k (.pull [rowI (some ⟨zA, 0, none⟩) p.next.length 3 1 (List.replicate p.next.length (.int .i64 0)), rowI (some ⟨zB, 0, none⟩) p.next.length 3 1 (List.replicate p.next.length (.int .i64 0))] _ (.k (.k (.k (.k (.k (.k .rf))))))))
      refine RO.fork [2] (by kernel_rfl) rfl ⟨⟨_, rfl, rfl, l_makeSlice (m := p.next.length) underlying23 inf3 rfl rfl (by omega) (by omega) (fun zA => ⟨by exact Sub.d (.d (.d (.d (.d (.d (.k .z)))))), ?_⟩)⟩, trivial⟩
      refine RO.fork [8] (by kernel_rfl) rfl ⟨⟨_, rfl, rfl, l_sb (v := (.slice (some ⟨zA, 0, none⟩) p.next.length p.next.length)) (vs := [(.slice (some ⟨zA, 0, none⟩) p.next.length p.next.length)]) 1 inf23 rfl rfl rfl rfl rfl rfl (by simp [putL]) ⟨by exact Sub.d (.d (.d (.d (.d (.d (.k .z)))))), ?_⟩⟩, trivial⟩
      refine RO.fork [9] (by kernel_rfl) rfl ⟨⟨_, rfl, rfl, l_sb (v := (.slice (some ⟨zB, 0, none⟩) p.next.length p.next.length)) (vs := [(.slice (some ⟨zB, 0, none⟩) p.next.length p.next.length)]) 3 inf23 rfl rfl rfl rfl rfl rfl (by simp [putL]) ⟨by exact Sub.d (.d (.d (.d (.d (.d (.k .z)))))), ?_⟩⟩, trivial⟩
      exact RO.fin (by kernel_rfl) ⟨zA, zB, zC, zD, rfl, ⟨rfl, rfl, rfl, rfl, rfl, rfl, rfl, trivial⟩⟩ (by exact Sub.pull [rowI (some ⟨zA, 0, none⟩) p.next.length 3 1 (List.replicate p.next.length (.int .i64 0))] _ (.pull [rowI (some ⟨zA, 0, none⟩) p.next.length 3 1 (List.replicate p.next.length (.int .i64 0)), rowI (some ⟨zB, 0, none⟩) p.next.length 3 1 (List.replicate p.next.length (.int .i64 0))] _ (.k (.k (.k (.k (.k (.k .rf))))))))
    refine RO.fork [2, 5] (by kernel_rfl) rfl ⟨⟨_, rfl, rfl, l_makeSlice (m := p.next.length) underlying23 inf3 rfl rfl (by omega) (by omega) (fun zA => ⟨by exact Sub.d (.d (.d (.d (.d (.k .z))))), ?_⟩)⟩, ⟨_, rfl, rfl, l_makeSlice (m := p.next.length) underlying23 inf3 rfl rfl (by omega) (by omega) (fun zB => ⟨by exact Sub.d (.d (.d (.d (.d (.k .z))))), ?_⟩)⟩, trivial⟩
    · refine RO.fork [5, 8] (by kernel_rfl) rfl ⟨⟨_, rfl, rfl, l_makeSlice (m := p.next.length) underlying23 inf3 rfl rfl (by omega) (by omega) (fun zB => ⟨by exact Sub.d (.d (.d (.d (.d (.d (.k .z)))))), ?_⟩)⟩, ⟨_, rfl, rfl, l_sb (v := (.slice (some ⟨zA, 0, none⟩) p.next.length p.next.length)) (vs := [(.slice (some ⟨zA, 0, none⟩) p.next.length p.next.length)]) 1 inf23 rfl rfl rfl rfl rfl rfl (by simp [putL]) ⟨by exact Sub.d (.d (.d (.d (.d (.k .z))))), ?_⟩⟩, trivial⟩
      · refine RO.fork [8] (by kernel_rfl) rfl ⟨⟨_, rfl, rfl, l_sb (v := (.slice (some ⟨zA, 0, none⟩) p.next.length p.next.length)) (vs := [(.slice (some ⟨zA, 0, none⟩) p.next.length p.next.length)]) 2 inf23 rfl rfl rfl rfl rfl rfl (by simp [putL]) ⟨by exact Sub.d (.d (.d (.d (.d (.d (.k .z)))))), ?_⟩⟩, trivial⟩
        refine RO.fork [9] (by kernel_rfl) rfl ⟨⟨_, rfl, rfl, l_sb (v := (.slice (some ⟨zB, 0, none⟩) p.next.length p.next.length)) (vs := [(.slice (some ⟨zB, 0, none⟩) p.next.length p.next.length)]) 3 inf23 rfl rfl rfl rfl rfl rfl (by simp [putL]) ⟨by exact Sub.d (.d (.d (.d (.d (.d (.k .z)))))), ?_⟩⟩, trivial⟩
        exact RO.fin (by kernel_rfl) ⟨zA, zB, zC, zD, rfl, ⟨rfl, rfl, rfl, rfl, rfl, rfl, rfl, trivial⟩⟩ (by exact Sub.pull [rowI (some ⟨zB, 0, none⟩) p.next.length 3 1 (List.replicate p.next.length (.int .i64 0)), rowI (some ⟨zA, 0, none⟩) p.next.length 3 1 (List.replicate p.next.length (.int .i64 0))] _ (.pull [rowI (some ⟨zB, 0, none⟩) p.next.length 3 1 (List.replicate p.next.length (.int .i64 0)), rowI (some ⟨zA, 0, none⟩) p.next.length 3 1 (List.replicate p.next.length (.int .i64 0))] _ (.pull [rowI (some ⟨zB, 0, none⟩) p.next.length 3 1 (List.replicate p.next.length (.int .i64 0))] _ (.k (.k (.k (.k (.k .rf))))))))
      refine RO.fork [5] (by kernel_rfl) rfl ⟨⟨_, rfl, rfl, l_makeSlice (m := p.next.length) underlying23 inf3 rfl rfl (by omega) (by omega) (fun zB => ⟨by exact Sub.d (.d (.d (.d (.d (.d (.k .z)))))), ?_⟩)⟩, trivial⟩
      refine RO.fork [9] (by kernel_rfl) rfl ⟨⟨_, rfl, rfl, l_sb (v := (.slice (some ⟨zB, 0, none⟩) p.next.length p.next.length)) (vs := [(.slice (some ⟨zB, 0, none⟩) p.next.length p.next.length)]) 3 inf23 rfl rfl rfl rfl rfl rfl (by simp [putL]) ⟨by exact Sub.d (.d (.d (.d (.d (.d (.k .z)))))), ?_⟩⟩, trivial⟩
      exact RO.fin (by kernel_rfl) ⟨zA, zB, zC, zD, rfl, ⟨rfl, rfl, rfl, rfl, rfl, rfl, rfl, trivial⟩⟩ (by exact Sub.pull [rowI (some ⟨zB, 0, none⟩) p.next.length 3 1 (List.replicate p.next.length (.int .i64 0)), rowI (some ⟨zA, 0, none⟩) p.next.length 3 1 (List.replicate p.next.length (.int .i64 0))] _ (.pull [rowI (some ⟨zB, 0, none⟩) p.next.length 3 1 (List.replicate p.next.length (.int .i64 0)), rowI (some ⟨zA, 0, none⟩) p.next.length 3 1 (List.replicate p.next.length (.int .i64 0))] _ (.pull [rowI (some ⟨zB, 0, none⟩) p.next.length 3 1 (List.replicate p.next.length (.int .i64 0))] _ (.k (.k (.k (.k (.k .rf))))))))
    refine RO.fork [2] (by kernel_rfl) rfl ⟨⟨_, rfl, rfl, l_makeSlice (m := p.next.length) underlying23 inf3 rfl rfl (by omega) (by omega) (fun zA => ⟨by exact Sub.d (.d (.d (.d (.d (.d (.k .z)))))), ?_⟩)⟩, trivial⟩
    refine RO.fork [8] (by kernel_rfl) rfl ⟨⟨_, rfl, rfl, l_sb (v := (.slice (some ⟨zA, 0, none⟩) p.next.length p.next.length)) (vs := [(.slice (some ⟨zA, 0, none⟩) p.next.length p.next.length)]) 2 inf23 rfl rfl rfl rfl rfl rfl (by simp [putL]) ⟨by exact Sub.d (.d (.d (.d (.d (.d (.k .z)))))), ?_⟩⟩, trivial⟩
    refine RO.fork [9] (by kernel_rfl) rfl ⟨⟨_, rfl, rfl, l_sb (v := (.slice (some ⟨zB, 0, none⟩) p.next.length p.next.length)) (vs := [(.slice (some ⟨zB, 0, none⟩) p.next.length p.next.length)]) 3 inf23 rfl rfl rfl rfl rfl rfl (by simp [putL]) ⟨by exact Sub.d (.d (.d (.d (.d (.d (.k .z)))))), ?_⟩⟩, trivial⟩
    exact RO.fin (by kernel_rfl) ⟨zA, zB, zC, zD, rfl, ⟨rfl, rfl, rfl, rfl, rfl, rfl, rfl, trivial⟩⟩ (by exact Sub.pull [rowI (some ⟨zA, 0, none⟩) p.next.length 3 1 (List.replicate p.next.length (.int .i64 0)), rowI (some ⟨zB, 0, none⟩) p.next.length 3 1 (List.replicate p.next.length (.int .i64 0))] _ (.pull [rowI (some ⟨zA, 0, none⟩) p.next.length 3 1 (List.replicate p.next.length (.int .i64 0)), rowI (some ⟨zB, 0, none⟩) p.next.length 3 1 (List.replicate p.next.length (.int .i64 0))] _ (.k (.k (.k (.k (.k (.k .rf))))))))
  rintro ρ O ⟨zA, zB, zC, zD, rfl, hH⟩
  obtain ⟨ρ0, rfl⟩ := hH.elim
  clear hH
  refine T.s (T.rg ?_)
  refine TO.q (q_fa underlying76 rfl inf3 rfl rfl) (TO.q (q_lb 6 underlying3 rfl rfl rfl rfl) ?_)
  refine TO.l rfl (l_makeSlice (m := p.next.length) underlying81 inf4 rfl rfl (by omega) (by omega) (fun bx4 => ?_))
  refine TO.l rfl (l_alloc inf81 rfl (fun bx5 => ?_))
  refine TO.l rfl (l_sb (v := (.slice (some ⟨bx4, 0, none⟩) p.next.length p.next.length)) (vs := [(.slice (some ⟨bx4, 0, none⟩) p.next.length p.next.length)]) 0 inf81 rfl rfl rfl rfl rfl rfl (by simp [putL]) ?_)
  refine TO.nl (T.s (T.rg ?_))
  refine TO.l rfl (l_alloc inf23 rfl (fun bx6 => ?_))
  refine TO.nl (T.s (T.rg ?_))
  refine TO.l rfl (l_alloc inf3 rfl (fun bx7 => ?_))
  refine TO.l rfl (l_sb (v := .int .i64 0) (vs := [(.int .i64 0)]) 0 inf3 rfl rfl rfl rfl rfl rfl (by simp [putL]) ?_)
  refine TO.nl (T.s (T.rg ?_))
  refine TO.l rfl (l_alloc inf103 rfl (fun bx8 => ?_))
  refine TO.nl (T.s (T.rg ?_))
  refine TO.q (q_makeFunc) ?_
  refine TO.l rfl (l_sb (v := (.func (.func 79) #[] #[(.pointer (some ⟨bx7, 0, none⟩)), (.pointer (some ⟨zC, 0, none⟩)), (.pointer (some ⟨zD, 0, none⟩)), (.pointer (some ⟨bx6, 0, none⟩)), (.pointer (some ⟨bx1, 0, none⟩)), (.pointer (some ⟨bx2, 0, none⟩)), (.pointer (some ⟨bx8, 0, none⟩)), (.pointer (some ⟨bx5, 0, none⟩)), (.pointer (some ⟨bx3, 0, none⟩))])) (vs := [(.func (.func 79) #[] #[(.pointer (some ⟨bx7, 0, none⟩)), (.pointer (some ⟨zC, 0, none⟩)), (.pointer (some ⟨zD, 0, none⟩)), (.pointer (some ⟨bx6, 0, none⟩)), (.pointer (some ⟨bx1, 0, none⟩)), (.pointer (some ⟨bx2, 0, none⟩)), (.pointer (some ⟨bx8, 0, none⟩)), (.pointer (some ⟨bx5, 0, none⟩)), (.pointer (some ⟨bx3, 0, none⟩))])]) 0 inf103 rfl rfl rfl rfl rfl rfl (by simp [putL]) ?_)
  refine TO.nl (T.s (T.s (T.rg ?_)))
  refine TO.q (q_fa underlying76 rfl inf3 rfl rfl) (TO.q (q_lb 11 underlying3 rfl rfl rfl rfl) (TO.qm rfl ?_))
  refine TO.nl (T.block ?_)
  refine T.nilRow 3 1 (T.nilRow 23 1 ?_)
  refine T.sub (O' := [oI bx7 3 [(.int .i64 0)], oI zC 23 [(.slice (some ⟨zA, 0, none⟩) p.next.length p.next.length)], oI zD 23 [(.slice (some ⟨zB, 0, none⟩) p.next.length p.next.length)], oI bx6 23 [(.slice none 0 0)], oI bx1 76 [.int .i64 ((p.next.length : Nat) : Int), (.func (.func 77) #[] #[(.pointer (some ⟨gx, 0, none⟩))])], oI bx2 69 [fal], oI bx8 103 [(.func (.func 79) #[] #[(.pointer (some ⟨bx7, 0, none⟩)), (.pointer (some ⟨zC, 0, none⟩)), (.pointer (some ⟨zD, 0, none⟩)), (.pointer (some ⟨bx6, 0, none⟩)), (.pointer (some ⟨bx1, 0, none⟩)), (.pointer (some ⟨bx2, 0, none⟩)), (.pointer (some ⟨bx8, 0, none⟩)), (.pointer (some ⟨bx5, 0, none⟩)), (.pointer (some ⟨bx3, 0, none⟩))])], oI bx5 81 [(.slice (some ⟨bx4, 0, none⟩) p.next.length p.next.length)], oI bx3 22 [(.slice none 0 0)], oI gx 25 (pC p k), rowI (some ⟨zA, 0, none⟩) p.next.length 3 1 (List.replicate p.next.length (.int .i64 0)), rowI (some ⟨zB, 0, none⟩) p.next.length 3 1 (List.replicate p.next.length (.int .i64 0)), rowI none 0 3 1 [], rowI (some ⟨bx4, 0, none⟩) p.next.length 4 1 (List.replicate p.next.length (.bool false)), rowI none 0 23 1 []] ++ OO) (by exact Sub.pull [rowI none 0 23 1 [], rowI none 0 3 1 [], oI bx8 103 [(.func (.func 79) #[] #[(.pointer (some ⟨bx7, 0, none⟩)), (.pointer (some ⟨zC, 0, none⟩)), (.pointer (some ⟨zD, 0, none⟩)), (.pointer (some ⟨bx6, 0, none⟩)), (.pointer (some ⟨bx1, 0, none⟩)), (.pointer (some ⟨bx2, 0, none⟩)), (.pointer (some ⟨bx8, 0, none⟩)), (.pointer (some ⟨bx5, 0, none⟩)), (.pointer (some ⟨bx3, 0, none⟩))])]] _ (.pull [rowI none 0 23 1 [], rowI none 0 3 1 [], oI bx8 103 [(.func (.func 79) #[] #[(.pointer (some ⟨bx7, 0, none⟩)), (.pointer (some ⟨zC, 0, none⟩)), (.pointer (some ⟨zD, 0, none⟩)), (.pointer (some ⟨bx6, 0, none⟩)), (.pointer (some ⟨bx1, 0, none⟩)), (.pointer (some ⟨bx2, 0, none⟩)), (.pointer (some ⟨bx8, 0, none⟩)), (.pointer (some ⟨bx5, 0, none⟩)), (.pointer (some ⟨bx3, 0, none⟩))])], oI bx6 23 [(.slice none 0 0)], oI bx5 81 [(.slice (some ⟨bx4, 0, none⟩) p.next.length p.next.length)], rowI (some ⟨bx4, 0, none⟩) p.next.length 4 1 (List.replicate p.next.length (.bool false))] _ (.pull [rowI none 0 23 1 [], rowI none 0 3 1 [], oI bx8 103 [(.func (.func 79) #[] #[(.pointer (some ⟨bx7, 0, none⟩)), (.pointer (some ⟨zC, 0, none⟩)), (.pointer (some ⟨zD, 0, none⟩)), (.pointer (some ⟨bx6, 0, none⟩)), (.pointer (some ⟨bx1, 0, none⟩)), (.pointer (some ⟨bx2, 0, none⟩)), (.pointer (some ⟨bx8, 0, none⟩)), (.pointer (some ⟨bx5, 0, none⟩)), (.pointer (some ⟨bx3, 0, none⟩))])], oI bx6 23 [(.slice none 0 0)], oI bx5 81 [(.slice (some ⟨bx4, 0, none⟩) p.next.length p.next.length)], rowI (some ⟨bx4, 0, none⟩) p.next.length 4 1 (List.replicate p.next.length (.bool false))] _ (.pull [rowI none 0 23 1 [], rowI none 0 3 1 [], oI bx8 103 [(.func (.func 79) #[] #[(.pointer (some ⟨bx7, 0, none⟩)), (.pointer (some ⟨zC, 0, none⟩)), (.pointer (some ⟨zD, 0, none⟩)), (.pointer (some ⟨bx6, 0, none⟩)), (.pointer (some ⟨bx1, 0, none⟩)), (.pointer (some ⟨bx2, 0, none⟩)), (.pointer (some ⟨bx8, 0, none⟩)), (.pointer (some ⟨bx5, 0, none⟩)), (.pointer (some ⟨bx3, 0, none⟩))])]] _ (.pull [rowI none 0 23 1 [], rowI none 0 3 1 [], oI bx8 103 [(.func (.func 79) #[] #[(.pointer (some ⟨bx7, 0, none⟩)), (.pointer (some ⟨zC, 0, none⟩)), (.pointer (some ⟨zD, 0, none⟩)), (.pointer (some ⟨bx6, 0, none⟩)), (.pointer (some ⟨bx1, 0, none⟩)), (.pointer (some ⟨bx2, 0, none⟩)), (.pointer (some ⟨bx8, 0, none⟩)), (.pointer (some ⟨bx5, 0, none⟩)), (.pointer (some ⟨bx3, 0, none⟩))])], oI bx5 81 [(.slice (some ⟨bx4, 0, none⟩) p.next.length p.next.length)], rowI (some ⟨bx4, 0, none⟩) p.next.length 4 1 (List.replicate p.next.length (.bool false)), rowI (some ⟨zA, 0, none⟩) p.next.length 3 1 (List.replicate p.next.length (.int .i64 0)), rowI (some ⟨zB, 0, none⟩) p.next.length 3 1 (List.replicate p.next.length (.int .i64 0)), oI bx3 22 [(.slice none 0 0)], oI bx2 69 [fal]] _ (.pull [rowI none 0 23 1 [], rowI none 0 3 1 [], oI bx8 103 [(.func (.func 79) #[] #[(.pointer (some ⟨bx7, 0, none⟩)), (.pointer (some ⟨zC, 0, none⟩)), (.pointer (some ⟨zD, 0, none⟩)), (.pointer (some ⟨bx6, 0, none⟩)), (.pointer (some ⟨bx1, 0, none⟩)), (.pointer (some ⟨bx2, 0, none⟩)), (.pointer (some ⟨bx8, 0, none⟩)), (.pointer (some ⟨bx5, 0, none⟩)), (.pointer (some ⟨bx3, 0, none⟩))])], oI bx5 81 [(.slice (some ⟨bx4, 0, none⟩) p.next.length p.next.length)], rowI (some ⟨bx4, 0, none⟩) p.next.length 4 1 (List.replicate p.next.length (.bool false)), rowI (some ⟨zA, 0, none⟩) p.next.length 3 1 (List.replicate p.next.length (.int .i64 0)), rowI (some ⟨zB, 0, none⟩) p.next.length 3 1 (List.replicate p.next.length (.int .i64 0)), oI bx3 22 [(.slice none 0 0)]] _ (.pull [rowI none 0 23 1 [], rowI none 0 3 1 []] _ (.pull [rowI none 0 23 1 [], rowI none 0 3 1 []] _ (.pull [rowI none 0 23 1 [], rowI none 0 3 1 [], rowI (some ⟨bx4, 0, none⟩) p.next.length 4 1 (List.replicate p.next.length (.bool false)), rowI (some ⟨zA, 0, none⟩) p.next.length 3 1 (List.replicate p.next.length (.int .i64 0)), rowI (some ⟨zB, 0, none⟩) p.next.length 3 1 (List.replicate p.next.length (.int .i64 0))] _ (.pull [rowI none 0 23 1 [], rowI none 0 3 1 [], rowI (some ⟨bx4, 0, none⟩) p.next.length 4 1 (List.replicate p.next.length (.bool false)), rowI (some ⟨zA, 0, none⟩) p.next.length 3 1 (List.replicate p.next.length (.int .i64 0)), rowI (some ⟨zB, 0, none⟩) p.next.length 3 1 (List.replicate p.next.length (.int .i64 0))] _ (.pull [rowI none 0 23 1 [], rowI none 0 3 1 [], rowI (some ⟨bx4, 0, none⟩) p.next.length 4 1 (List.replicate p.next.length (.bool false))] _ (.pull [rowI none 0 23 1 [], rowI none 0 3 1 [], rowI (some ⟨bx4, 0, none⟩) p.next.length 4 1 (List.replicate p.next.length (.bool false))] _ (.pull [rowI none 0 23 1 []] _ (.pull [rowI none 0 23 1 []] _ (.k .rf))))))))))))))) ?_
  refine T.loopS (fun (v : Nat) ρ O => ∃ (s : CL) (sb : Option Addr) (sc : Nat) (ab : Option Addr) (ac : Nat) (ps : List Rec), O = ([oI bx7 3 [(.int .i64 ((s.clk : Nat) : Int))], oI zC 23 [(.slice (some ⟨zA, 0, none⟩) p.next.length p.next.length)], oI zD 23 [(.slice (some ⟨zB, 0, none⟩) p.next.length p.next.length)], oI bx6 23 [(.slice sb s.stk.length sc)], oI bx1 76 [.int .i64 ((p.next.length : Nat) : Int), (.func (.func 77) #[] #[(.pointer (some ⟨gx, 0, none⟩))])], oI bx2 69 [fal], oI bx8 103 [(.func (.func 79) #[] #[(.pointer (some ⟨bx7, 0, none⟩)), (.pointer (some ⟨zC, 0, none⟩)), (.pointer (some ⟨zD, 0, none⟩)), (.pointer (some ⟨bx6, 0, none⟩)), (.pointer (some ⟨bx1, 0, none⟩)), (.pointer (some ⟨bx2, 0, none⟩)), (.pointer (some ⟨bx8, 0, none⟩)), (.pointer (some ⟨bx5, 0, none⟩)), (.pointer (some ⟨bx3, 0, none⟩))])], oI bx5 81 [(.slice (some ⟨bx4, 0, none⟩) p.next.length p.next.length)], oI bx3 22 [(.slice ab ps.length ac)], oI gx 25 (pC p k), rowI (some ⟨zA, 0, none⟩) p.next.length 3 1 (nats s.idx), rowI (some ⟨zB, 0, none⟩) p.next.length 3 1 (nats s.low), rowI sb sc 3 1 (nats s.stk), rowI (some ⟨bx4, 0, none⟩) p.next.length 4 1 (bools s.dn), rowI ab ac 23 1 (vals ps)] ++ (itms 3 ps ++ OO)) ∧ v ≤ p.next.length ∧ nums ps = s.all.map intY ∧ CLok p.d al s ∧ TInv p.next.length (EA p.d al) [] s.ts ∧ (∀ u, u < v → al u = true → s.idx.getD u 0 ≠ 0) ∧ Heads [(0, (.agg #[.int .i64 ((p.next.length : Nat) : Int), (.func (.func 77) #[] #[(.pointer (some ⟨gx, 0, none⟩))])])), (1, fal), (2, (.pointer (some ⟨bx1, 0, none⟩))), (3, (.pointer (some ⟨bx2, 0, none⟩))), (4, (.pointer (some ⟨bx3, 0, none⟩))), (5, (.pointer (some ⟨zC, 0, none⟩))), (6, (.pointer (some ⟨zD, 0, none⟩))), (7, (.pointer (some ⟨bx5, 0, none⟩))), (8, (.pointer (some ⟨bx6, 0, none⟩))), (9, (.pointer (some ⟨bx7, 0, none⟩))), (10, (.pointer (some ⟨bx8, 0, none⟩))), (23, .int .i64 ((p.next.length : Nat) : Int)), (24, .int .i64 ((v : Nat) : Int))] ρ) (fun v => p.next.length - v) 0 ?_ ?_
  · refine ⟨{ idx := List.replicate p.d.next.length 0, low := List.replicate p.d.next.length 0, dn := List.replicate p.d.next.length false, stk := [], clk := 0, all := [], comp := fun _ => -1, cnt := 0 }, none, 0, none, 0, [], ?_, Nat.zero_le _, rfl, (CL.start p.d al).1, (CL.start p.d al).2, fun u hu => absurd hu (by omega), ⟨rfl, rfl, rfl, rfl, rfl, rfl, rfl, rfl, rfl, rfl, rfl, rfl, rfl, trivial⟩⟩
    simp only [List.map_replicate, List.map_nil, List.length_nil]; rfl
  rintro v ρ O ⟨s, sb, sc, ab, ac, ps, rfl, hvl9, hps, hok, hinv, hvis, hH⟩
  obtain ⟨ρ0, rfl⟩ := hH.elim
  clear hH
  have hli : s.idx.length = p.next.length := hok.li
  refine T.s (T.rg ?_)
  refine TO.q (q_lss rfl rfl) ?_
  refine TO.nl (T.s ?_)
  refine T.condP rfl (fun hc => ?_) (fun hc => ?_)
  · have hlt25 : v < p.next.length := by omega
    have hlv : v < p.next.length := by omega
    have hvi : v < s.idx.length := by omega
    refine T.skip (T.s (T.block (T.s (T.rg ?_))))
    refine TO.qm rfl (TO.qa rfl ?_)
    refine TO.nl (T.s (T.rg ?_))
    refine TO.q (q_lb 1 underlying23 rfl rfl rfl rfl) (TO.qm rfl (TO.q (q_ix (i := v) underlying23 inf3 rfl rfl (rowO (mG 10 rfl)) hlv (by rw [List.length_map]; exact hvi)) (TO.q (q_ld underlying3 rfl rfl (rowO (mG 10 rfl)) (nats_get hvi)) ?_)))
    by_cases h31 : ((s.idx[v] : Nat) : Int) = 0
    · refine TO.q (QT.toB (q_eql rfl rfl) (decide_eq_true h31)) ?_
      refine TO.qm rfl ?_
      refine TO.gd rfl rfl rfl (LT.oq rfl rfl (q_lb 5 underlying69 rfl rfl rfl rfl) ?_)
      refine TO.gd rfl rfl rfl (LT.oq rfl rfl (q_move rfl) ?_)
      by_cases h35 : al v = true
      · have hk35 := CallV.keepR ([oI bx7 3 [(.int .i64 ((s.clk : Nat) : Int))], oI zC 23 [(.slice (some ⟨zA, 0, none⟩) p.next.length p.next.length)], oI zD 23 [(.slice (some ⟨zB, 0, none⟩) p.next.length p.next.length)], oI bx6 23 [(.slice sb s.stk.length sc)], oI bx1 76 [.int .i64 ((p.next.length : Nat) : Int), (.func (.func 77) #[] #[(.pointer (some ⟨gx, 0, none⟩))])], oI bx2 69 [fal], oI bx8 103 [(.func (.func 79) #[] #[(.pointer (some ⟨bx7, 0, none⟩)), (.pointer (some ⟨zC, 0, none⟩)), (.pointer (some ⟨zD, 0, none⟩)), (.pointer (some ⟨bx6, 0, none⟩)), (.pointer (some ⟨bx1, 0, none⟩)), (.pointer (some ⟨bx2, 0, none⟩)), (.pointer (some ⟨bx8, 0, none⟩)), (.pointer (some ⟨bx5, 0, none⟩)), (.pointer (some ⟨bx3, 0, none⟩))])], oI bx5 81 [(.slice (some ⟨bx4, 0, none⟩) p.next.length p.next.length)], oI bx3 22 [(.slice ab ps.length ac)], oI gx 25 (pC p k), rowI (some ⟨zA, 0, none⟩) p.next.length 3 1 (nats s.idx), rowI (some ⟨zB, 0, none⟩) p.next.length 3 1 (nats s.low), rowI sb sc 3 1 (nats s.stk), rowI (some ⟨bx4, 0, none⟩) p.next.length 4 1 (bools s.dn), rowI ab ac 23 1 (vals ps)] ++ itms 3 ps) (hal v hlv)
        refine TO.gd rfl rfl rfl (l_callG hk35 rfl rfl ?_)
        clear hk35
        rintro vr O' ⟨rfl, rfl⟩
        rw [decide_eq_true h35]
        refine TO.q (q_pick1 rfl rfl) ?_
        refine TO.nl ?_
        refine T.cond1 rfl ?_
        refine T.rg ?_
        refine TO.q (q_lb 6 underlying103 rfl rfl rfl rfl) (TO.qm rfl ?_)
        have hk39 := CallV.of_fn (first := []) (args := [.int .i64 ((v : Nat) : Int)]) (caps := [(.pointer (some ⟨bx7, 0, none⟩)), (.pointer (some ⟨zC, 0, none⟩)), (.pointer (some ⟨zD, 0, none⟩)), (.pointer (some ⟨bx6, 0, none⟩)), (.pointer (some ⟨bx1, 0, none⟩)), (.pointer (some ⟨bx2, 0, none⟩)), (.pointer (some ⟨bx8, 0, none⟩)), (.pointer (some ⟨bx5, 0, none⟩)), (.pointer (some ⟨bx3, 0, none⟩))]) ent79 (visitF base p k h hv hn hw OO al bx7 zC zD bx6 bx1 bx2 bx8 bx5 bx3 gx (some ⟨zA, 0, none⟩) (some ⟨zB, 0, none⟩) (some ⟨bx4, 0, none⟩) p.next.length p.next.length p.next.length fal hal _ s sb sc ab ac ps [] v rfl hps hok hinv hlv (by omega) h35 (fun g hg => (List.not_mem_nil hg).elim))
        refine TO.l rfl (l_callG hk39 rfl rfl ?_)
        clear hk39
        rintro vr O' ⟨s2, sb2, sc2, ab2, ac2, ps2, t2, rfl, hps2, hd⟩
        refine TO.nl (T.rg ?_)
        refine TO.q (q_addN (a := v) (b := 1) rfl rfl (by omega)) (TO.qm rfl ?_)
        refine TO.nl ?_
        exact ⟨v + 1, by omega, ([oI bx7 3 [(.int .i64 ((s2.clk : Nat) : Int))], oI zC 23 [(.slice (some ⟨zA, 0, none⟩) p.next.length p.next.length)], oI zD 23 [(.slice (some ⟨zB, 0, none⟩) p.next.length p.next.length)], oI bx6 23 [(.slice sb2 s2.stk.length sc2)], oI bx1 76 [.int .i64 ((p.next.length : Nat) : Int), (.func (.func 77) #[] #[(.pointer (some ⟨gx, 0, none⟩))])], oI bx2 69 [fal], oI bx8 103 [(.func (.func 79) #[] #[(.pointer (some ⟨bx7, 0, none⟩)), (.pointer (some ⟨zC, 0, none⟩)), (.pointer (some ⟨zD, 0, none⟩)), (.pointer (some ⟨bx6, 0, none⟩)), (.pointer (some ⟨bx1, 0, none⟩)), (.pointer (some ⟨bx2, 0, none⟩)), (.pointer (some ⟨bx8, 0, none⟩)), (.pointer (some ⟨bx5, 0, none⟩)), (.pointer (some ⟨bx3, 0, none⟩))])], oI bx5 81 [(.slice (some ⟨bx4, 0, none⟩) p.next.length p.next.length)], oI bx3 22 [(.slice ab2 ps2.length ac2)], oI gx 25 (pC p k), rowI (some ⟨zA, 0, none⟩) p.next.length 3 1 (nats s2.idx), rowI (some ⟨zB, 0, none⟩) p.next.length 3 1 (nats s2.low), rowI sb2 sc2 3 1 (nats s2.stk), rowI (some ⟨bx4, 0, none⟩) p.next.length 4 1 (bools s2.dn), rowI ab2 ac2 23 1 (vals ps2)] ++ (itms 3 ps2 ++ OO)), (by exact Sub.rf), s2, sb2, sc2, ab2, ac2, ps2, rfl, by omega, hps2, hd.ok, hd.inv, (fun u hu ha => (Nat.lt_succ_iff_lt_or_eq.1 hu).elim (fun h1 => by have h2 := hd.ext.idx u (hvis u h1 ha); show s2.ts.idx u ≠ 0; rw [h2]; exact hvis u h1 ha) (fun h1 => h1 ▸ hd.post.1)), ⟨rfl, rfl, rfl, rfl, rfl, rfl, rfl, rfl, rfl, rfl, rfl, rfl, rfl, trivial⟩⟩
      have hk35 := CallV.keepR ([oI bx7 3 [(.int .i64 ((s.clk : Nat) : Int))], oI zC 23 [(.slice (some ⟨zA, 0, none⟩) p.next.length p.next.length)], oI zD 23 [(.slice (some ⟨zB, 0, none⟩) p.next.length p.next.length)], oI bx6 23 [(.slice sb s.stk.length sc)], oI bx1 76 [.int .i64 ((p.next.length : Nat) : Int), (.func (.func 77) #[] #[(.pointer (some ⟨gx, 0, none⟩))])], oI bx2 69 [fal], oI bx8 103 [(.func (.func 79) #[] #[(.pointer (some ⟨bx7, 0, none⟩)), (.pointer (some ⟨zC, 0, none⟩)), (.pointer (some ⟨zD, 0, none⟩)), (.pointer (some ⟨bx6, 0, none⟩)), (.pointer (some ⟨bx1, 0, none⟩)), (.pointer (some ⟨bx2, 0, none⟩)), (.pointer (some ⟨bx8, 0, none⟩)), (.pointer (some ⟨bx5, 0, none⟩)), (.pointer (some ⟨bx3, 0, none⟩))])], oI bx5 81 [(.slice (some ⟨bx4, 0, none⟩) p.next.length p.next.length)], oI bx3 22 [(.slice ab ps.length ac)], oI gx 25 (pC p k), rowI (some ⟨zA, 0, none⟩) p.next.length 3 1 (nats s.idx), rowI (some ⟨zB, 0, none⟩) p.next.length 3 1 (nats s.low), rowI sb sc 3 1 (nats s.stk), rowI (some ⟨bx4, 0, none⟩) p.next.length 4 1 (bools s.dn), rowI ab ac 23 1 (vals ps)] ++ itms 3 ps) (hal v hlv)
      refine TO.gd rfl rfl rfl (l_callG hk35 rfl rfl ?_)
      clear hk35
      rintro vr O' ⟨rfl, rfl⟩
      rw [decide_eq_false h35]
      refine TO.q (q_pick1 rfl rfl) ?_
      refine TO.nl ?_
      refine T.cond0 rfl ?_
      refine T.skip (T.rg ?_)
      refine TO.q (q_addN (a := v) (b := 1) rfl rfl (by omega)) (TO.qm rfl ?_)
      refine TO.nl ?_
      exact ⟨v + 1, by omega, ([oI bx7 3 [(.int .i64 ((s.clk : Nat) : Int))], oI zC 23 [(.slice (some ⟨zA, 0, none⟩) p.next.length p.next.length)], oI zD 23 [(.slice (some ⟨zB, 0, none⟩) p.next.length p.next.length)], oI bx6 23 [(.slice sb s.stk.length sc)], oI bx1 76 [.int .i64 ((p.next.length : Nat) : Int), (.func (.func 77) #[] #[(.pointer (some ⟨gx, 0, none⟩))])], oI bx2 69 [fal], oI bx8 103 [(.func (.func 79) #[] #[(.pointer (some ⟨bx7, 0, none⟩)), (.pointer (some ⟨zC, 0, none⟩)), (.pointer (some ⟨zD, 0, none⟩)), (.pointer (some ⟨bx6, 0, none⟩)), (.pointer (some ⟨bx1, 0, none⟩)), (.pointer (some ⟨bx2, 0, none⟩)), (.pointer (some ⟨bx8, 0, none⟩)), (.pointer (some ⟨bx5, 0, none⟩)), (.pointer (some ⟨bx3, 0, none⟩))])], oI bx5 81 [(.slice (some ⟨bx4, 0, none⟩) p.next.length p.next.length)], oI bx3 22 [(.slice ab ps.length ac)], oI gx 25 (pC p k), rowI (some ⟨zA, 0, none⟩) p.next.length 3 1 (nats s.idx), rowI (some ⟨zB, 0, none⟩) p.next.length 3 1 (nats s.low), rowI sb sc 3 1 (nats s.stk), rowI (some ⟨bx4, 0, none⟩) p.next.length 4 1 (bools s.dn), rowI ab ac 23 1 (vals ps)] ++ (itms 3 ps ++ OO)), (by exact Sub.rf), s, sb, sc, ab, ac, ps, rfl, by omega, hps, hok, hinv, (fun u hu ha => (Nat.lt_succ_iff_lt_or_eq.1 hu).elim (fun h1 => hvis u h1 ha) (fun h1 => by subst h1; first | (rw [gd (by omega)]; omega) | exact absurd ha h35)), ⟨rfl, rfl, rfl, rfl, rfl, rfl, rfl, rfl, rfl, rfl, rfl, rfl, rfl, trivial⟩⟩
    refine TO.q (QT.toB (q_eql rfl rfl) (decide_eq_false h31)) (TO.qm rfl ?_)
    refine TO.pd rfl rfl ?_
    refine TO.pd rfl rfl ?_
    refine TO.pd rfl rfl ?_
    refine TO.q (q_pick0 rfl rfl) ?_
    refine TO.nl ?_
    refine T.cond0 rfl ?_
    refine T.skip (T.rg ?_)
    refine TO.q (q_addN (a := v) (b := 1) rfl rfl (by omega)) (TO.qm rfl ?_)
    refine TO.nl ?_
    exact ⟨v + 1, by omega, ([oI bx7 3 [(.int .i64 ((s.clk : Nat) : Int))], oI zC 23 [(.slice (some ⟨zA, 0, none⟩) p.next.length p.next.length)], oI zD 23 [(.slice (some ⟨zB, 0, none⟩) p.next.length p.next.length)], oI bx6 23 [(.slice sb s.stk.length sc)], oI bx1 76 [.int .i64 ((p.next.length : Nat) : Int), (.func (.func 77) #[] #[(.pointer (some ⟨gx, 0, none⟩))])], oI bx2 69 [fal], oI bx8 103 [(.func (.func 79) #[] #[(.pointer (some ⟨bx7, 0, none⟩)), (.pointer (some ⟨zC, 0, none⟩)), (.pointer (some ⟨zD, 0, none⟩)), (.pointer (some ⟨bx6, 0, none⟩)), (.pointer (some ⟨bx1, 0, none⟩)), (.pointer (some ⟨bx2, 0, none⟩)), (.pointer (some ⟨bx8, 0, none⟩)), (.pointer (some ⟨bx5, 0, none⟩)), (.pointer (some ⟨bx3, 0, none⟩))])], oI bx5 81 [(.slice (some ⟨bx4, 0, none⟩) p.next.length p.next.length)], oI bx3 22 [(.slice ab ps.length ac)], oI gx 25 (pC p k), rowI (some ⟨zA, 0, none⟩) p.next.length 3 1 (nats s.idx), rowI (some ⟨zB, 0, none⟩) p.next.length 3 1 (nats s.low), rowI sb sc 3 1 (nats s.stk), rowI (some ⟨bx4, 0, none⟩) p.next.length 4 1 (bools s.dn), rowI ab ac 23 1 (vals ps)] ++ (itms 3 ps ++ OO)), (by exact Sub.rf), s, sb, sc, ab, ac, ps, rfl, by omega, hps, hok, hinv, (fun u hu ha => (Nat.lt_succ_iff_lt_or_eq.1 hu).elim (fun h1 => hvis u h1 ha) (fun h1 => by subst h1; first | (rw [gd (by omega)]; omega) | exact absurd ha h35)), ⟨rfl, rfl, rfl, rfl, rfl, rfl, rfl, rfl, rfl, rfl, rfl, rfl, rfl, trivial⟩⟩
  have hge25 : ¬ v < p.next.length := by omega
  refine T.exit ?_
  refine T.s (T.rg ?_)
  refine TO.q (q_lb 8 underlying22 rfl rfl rfl rfl) ?_
  refine TO.l rfl (l_sb (v := (.slice ab ps.length ac)) (vs := [(.slice ab ps.length ac)]) 8 inf22 rfl rfl rfl rfl rfl rfl (by simp [putL]) ?_)
  refine TO.nl (T.ret (Res.drop ?_))
  refine Res.cell1n (i := 8) Tryd.results53 underlying22 rfl rfl rfl ?_
  have hpo := parts_ok (S := fun u => al u = true) (fun u w e => ⟨e.1, hEl u w e⟩) hinv (fun u hu ha => hvis u (by omega) ha) (fun u hu => hok.alw u hu) hok.prt
  exact ⟨[rowI ab ac 23 1 (vals ps), oI gx 25 (pC p k)] ++ (OO ++ itms 3 ps), Sub.tailSwap (by exact Sub.d (.d (.d (.d (.d (.d (.d (.d (.d (.pull [oI gx 25 (pC p k), rowI (some ⟨zA, 0, none⟩) p.next.length 3 1 (nats s.idx), rowI (some ⟨zB, 0, none⟩) p.next.length 3 1 (nats s.low), rowI sb sc 3 1 (nats s.stk), rowI (some ⟨bx4, 0, none⟩) p.next.length 4 1 (bools s.dn)] _ (.k (.d (.d (.d (.d .rf))))))))))))))), s.all, ab, ac, ps, rfl, rfl, hps, hpo⟩
end Go.Proofs.YtnikhiohindggaaDoor


namespace Go.Lx
theorem DE_lt {d : DFA} (hv : Val d) : ∀ u v, DE d u v → v < d.next.length := fun u v ⟨hu, x, hx, e⟩ => e ▸ (hv.toN_lt hu hx).1
theorem run_rchD {d : DFA} (hv : Val d) : ∀ (w : List Nat) (s : Nat), s < d.next.length → Wd d w → Rch (DE d) s (runN d s w)
  | [], s, _, _ => .refl s
  | x :: w, s, hs, hw => by
    have hx := hw x (by simp)
    exact .step ⟨hs, x, hx, rfl⟩ (run_rchD hv w _ (hv.toN_lt hs hx).1 fun y hy => hw y (by simp [hy]))
theorem mem_order {d : DFA} (hv : Val d) {v : Nat} : v ∈ order d ↔ Rch (DE d) d.start.toNat v := by
  constructor
  · intro h
    obtain ⟨w, hw, e⟩ := bfsN_reach hv _ v h
    rw [← e]; exact run_rchD hv w _ (start_lt hv) hw
  · intro h
    have h0 : d.start.toNat ∈ order d := (bfsN_prefix d 0 d.next.length (Nat.zero_le _)).subset (by simp [bfsN])
    have all : ∀ a b, Rch (DE d) a b → a ∈ order d → b ∈ order d := fun a b hr => by
      induction hr with
      | refl => exact id
      | step e _ ih =>
        intro ha
        obtain ⟨hu, x, hx, rfl⟩ := e
        exact ih (order_closed hv _ ha _ (List.mem_map.2 ⟨x, List.mem_range.2 hx, rfl⟩))
    exact all _ _ h h0
def rchM (ks : List Nat) : List (Int × Bool) := ks.map fun v => (((v : Nat) : Int), true)
theorem rchM_look (v : Nat) : ∀ ks : List Nat, lookL ((v : Nat) : Int) (rchM ks) = if v ∈ ks then some true else none
  | [] => rfl
  | k :: ks => by
    have ih := rchM_look v ks
    unfold rchM at ih ⊢
    rw [List.map_cons]
    unfold lookL
    by_cases e : v = k
    · subst e; simp
    · rw [if_neg (by simp only; omega), ih]
      by_cases h : v ∈ ks <;> simp [h, e]
theorem rchM_at (ks : List Nat) (v : Nat) : (lookL ((v : Nat) : Int) (rchM ks)).getD false = decide (v ∈ ks) := by
  rw [rchM_look]; by_cases h : v ∈ ks <;> simp [h]
theorem rchM_new {ks : List Nat} {v : Nat} (h : v ∉ ks) : ((v : Nat) : Int) ∉ (rchM ks).map Prod.fst := fun hm => by
  unfold rchM at hm
  rw [List.map_map, List.mem_map] at hm
  obtain ⟨a, ha, e⟩ := hm
  have e2 : ((a : Nat) : Int) = ((v : Nat) : Int) := e
  have : a = v := by omega
  exact h (this ▸ ha)
theorem rchM_snoc (ks : List Nat) (v : Nat) : rchM (ks ++ [v]) = rchM ks ++ [(((v : Nat) : Int), true)] := by simp [rchM]
theorem add_old {ks : List Nat} {v : Nat} (h : v ∈ ks) : add ks v = ks := if_pos h
theorem add_new {ks : List Nat} {v : Nat} (h : v ∉ ks) : add ks v = ks ++ [v] := if_neg h
theorem drop_snoc {ks : List Nat} {i v : Nat} (h : i ≤ ks.length) : (ks ++ [v]).drop i = ks.drop i ++ [v] := by rw [List.drop_append_of_le_length h]
theorem bfsM_all {d : DFA} {i o : Nat} (h : (bfsN d i)[i]? = some o) : bfsM d i o (letN d) = bfsN d (i + 1) := (bfsN_succ h).symm
def alI (d : DFA) (al : Nat → Bool) (v : Nat) : Bool := decide (v ∈ order d) && al v
theorem alI_ins {d : DFA} (hv : Val d) (al : Nat → Bool) : (fun v => alI d al v = true) = Ins d al := funext fun v => propext (by
  unfold alI Ins
  rw [Bool.and_eq_true, decide_eq_true_eq, mem_order hv])
def FndI (one two : Nat → Bool) (ps : List (List Nat)) : Prop := ∀ P ∈ ps, ¬ ((∃ v ∈ P, one v = true) ∧ ∃ u ∈ P, two u = true)
theorem FndI.step {one two : Nat → Bool} {all : List (List Nat)} {i : Nat} (h : FndI one two (all.take i)) (hi : i < all.length) (hn : ¬ ((∃ v ∈ all[i], one v = true) ∧ ∃ u ∈ all[i], two u = true)) : FndI one two (all.take (i + 1)) := fun P hP => by
  rw [List.take_succ_eq_append_getElem hi] at hP
  rcases List.mem_append.1 hP with hP | hP
  · exact h P hP
  · rw [List.mem_singleton.1 hP]; exact hn
theorem find_none {d : DFA} (hv : Val d) {al one two : Nat → Bool} {all : List (List Nat)} (h : PartsOk d.next.length (DE d) (fun v => alI d al v = true) all) (hn : FndI one two all) : FindOk d al one two none := fun hh => by
  rw [alI_ins hv] at h
  obtain ⟨P, hP, h1, h2⟩ := (parts_has (DE_lt hv) (start_lt hv) h).1 hh
  exact hn P hP ⟨h1, h2⟩
theorem find_way1 {d : DFA} (hv : Val d) {al : Nat → Bool} {all : List (List Nat)} (h : PartsOk d.next.length (DE d) (fun v => alI d al v = true) all) {P : List Nat} (hP : P ∈ all) {s : Nat} (hs : s ∈ P) : ∃ (Q : Nat → Prop) (t : Nat), (∀ v, Q v → (fun _ : Nat => true) v = true) ∧ decide (t = s) = true ∧ ((false = false ∧ Rch (InS (DE d) Q) d.start.toNat t) ∨ ∃ c, InS (DE d) Q d.start.toNat c ∧ Rch (InS (DE d) Q) c t) := by
  rw [alI_ins hv] at h
  have hr := ((h.sub P hP s hs).2).1
  refine ⟨fun _ => True, s, fun _ _ => rfl, decide_eq_true rfl, .inl ⟨rfl, hr.mono fun u v e => ⟨e, trivial, trivial⟩⟩⟩
theorem find_way2 {d : DFA} (hv : Val d) {al two : Nat → Bool} {all : List (List Nat)} (h : PartsOk d.next.length (DE d) (fun v => alI d al v = true) all) {P : List Nat} (hP : P ∈ all) {s u : Nat} (hs : s ∈ P) (hu : u ∈ P) (h2 : two u = true) (far : Bool) : ∃ (Q : Nat → Prop) (t : Nat), (∀ v, Q v → (fun u : Nat => decide (u ∈ P)) v = true) ∧ two t = true ∧ ((far = false ∧ Rch (InS (DE d) Q) s t) ∨ ∃ c, InS (DE d) Q s c ∧ Rch (InS (DE d) Q) c t) := by
  rw [alI_ins hv] at h
  obtain ⟨c, h3, h4⟩ := part_ways h hP hs hu
  exact ⟨fun v => v ∈ P, u, fun v hv => decide_eq_true hv, h2, .inr ⟨c, h3, h4⟩⟩
theorem find_some {d : DFA} (hv : Val d) {al one two : Nat → Bool} {all : List (List Nat)} (h : PartsOk d.next.length (DE d) (fun v => alI d al v = true) all) {P : List Nat} (hP : P ∈ all) {s : Nat} (hs : s ∈ P) (ho : one s = true) {pre lo back : List Nat} {t : Nat} {l : La}
    (h1 : PathR d (fun _ => true) (fun u => decide (u = s)) d.start.toNat false pre s) (h2 : PathR d (fun u => decide (u ∈ P)) two s false lo t) (h3 : PathR d (fun u => decide (u ∈ P)) (fun u => decide (u = s)) t (decide (t = s)) back s) (hc : CanonOf ⟨pre, lo ++ back⟩ l) : FindOk d al one two (some l) := by
  rw [alI_ins hv] at h
  exact ⟨pre, lo ++ back, find_word (fun s w hs hw => runN_lt hv hs w hw) h hP hs ho h1 h2 h3, hc⟩
def FdR (d : DFA) (al one two : Nat → Bool) (b : Bool) (l : La) : Prop := if b = true then FindOk d al one two (some l) else l = ⟨[], []⟩ ∧ FindOk d al one two none
theorem rchM_zero {d : DFA} (hv : Val d) : rchM (bfsN d 0) = [(d.start, true)] := by
  have := hv.s0
  simp only [bfsN, rchM, List.map_cons, List.map_nil]
  rw [Int.toNat_of_nonneg hv.s0]
theorem bfs_zero {d : DFA} (hv : Val d) : nats ((bfsN d 0).drop 0) = [.int .i64 d.start] := by
  have := hv.s0
  simp only [bfsN, List.drop_zero, List.map_cons, List.map_nil]
  rw [Int.toNat_of_nonneg hv.s0]
theorem any_intY (p : Nat → Bool) : ∀ l : List Nat, (intY l).any (fun x => decide (p x.toNat = true)) = l.any p
  | [] => rfl
  | a :: l => by
    have ih := any_intY p l
    show (decide (p (Int.toNat ((a : Nat) : Int)) = true) || (intY l).any _) = (p a || l.any p)
    rw [ih, Int.toNat_natCast]
    cases p a <;> rfl
theorem no_any {p : Nat → Bool} {l : List Nat} (h : (intY l).any (fun x => decide (p x.toNat = true)) = false) : ¬ ∃ v ∈ l, p v = true := fun ⟨v, hv, hp⟩ => by
  rw [any_intY] at h
  rw [List.any_eq_true.2 ⟨v, hv, hp⟩] at h; cases h
theorem yes_any {p : Nat → Bool} {l : List Nat} (h : (intY l).any (fun x => decide (p x.toNat = true)) = true) : ∃ v ∈ l, p v = true := by
  rw [any_intY] at h
  obtain ⟨v, hv, hp⟩ := List.any_eq_true.1 h
  exact ⟨v, hv, hp⟩
theorem mem_intY {l : List Nat} {x : Int} (h : x ∈ intY l) : ∃ u : Nat, u ∈ l ∧ x = ((u : Nat) : Int) := by
  obtain ⟨u, hu, e⟩ := List.mem_map.1 h
  exact ⟨u, hu, e.symm⟩
theorem intY_get {l : List Nat} {k : Nat} (hk : k < (intY l).length) : (intY l)[k] = ((l[k]'(by rw [← intY_len]; exact hk) : Nat) : Int) := List.getElem_map _
theorem PathR.small {d : DFA} (hn : d.next.length ≤ 4096) {al to : Nat → Bool} {frm : Nat} {far : Bool} {w : List Nat} {t : Nat} (h : PathR d al to frm far w t) : w.length ≤ 4096 := by have := h.len; omega
theorem FindL.ok {d : DFA} {al one two : Nat → Bool} {pre loop : List Nat} (h : FindL d al one two pre loop) : 0 < loop.length := h.pos
theorem prNext_step {a b : DFA} {s t : Nat} (hs : s < a.next.length) (ht : t < b.next.length) : (prNext a b).take (s * b.next.length + (t + 1)) = (prNext a b).take (s * b.next.length + t) ++ [prRow a b s t] := by
  have h := prNext_at hs ht
  have hl := (List.getElem?_eq_some_iff.1 h).1
  rw [List.getElem?_eq_getElem hl] at h
  rw [show s * b.next.length + (t + 1) = s * b.next.length + t + 1 by omega, List.take_succ_eq_append_getElem hl, Option.some.inj h]
def rCut (r : List Int) (x : Nat) : List Int := r.take x ++ List.replicate (r.length - x) 0
theorem rCut_zero (r : List Int) : rCut r 0 = List.replicate r.length 0 := by simp [rCut]
theorem rCut_end (r : List Int) : rCut r r.length = r := by simp [rCut]
theorem rCut_len (r : List Int) {x : Nat} (h : x ≤ r.length) : (rCut r x).length = r.length := by simp [rCut]; omega
theorem rCut_set {r : List Int} {x : Nat} {v : Int} (hx : x < r.length) (h : r[x]? = some v) : (rCut r x).set x v = rCut r (x + 1) := by
  unfold rCut
  have hl : (r.take x).length = x := by rw [List.length_take]; omega
  rw [List.getElem?_eq_getElem hx] at h
  rw [List.set_append_right _ _ (by omega), hl, Nat.sub_self, show r.length - x = (r.length - (x + 1)) + 1 by omega, List.replicate_succ, List.set_cons_zero, List.take_succ_eq_append_getElem hx, Option.some.inj h]
  simp
def pairP (p q : Par) : Par := ⟨p.vars, ((p.start.toNat * q.next.length + q.start.toNat : Nat) : Int), prNext p.d q.d, []⟩
def nilLa : La := ⟨[], []⟩
def diE (p q : Par) : Nat := if checkP p ≠ 0 then checkP p else if checkP q ≠ 0 then checkP q else if p.vars ≠ q.vars then 7 else 0
def WiR (p : Par) (l : La) (e : Nat) : Prop := (checkP p ≠ 0 ∧ e = checkP p ∧ l = nilLa) ∨ (checkP p = 0 ∧ e = 0 ∧ ∃ k, k % 2 = 0 ∧ k ≤ 16 ∧ FindOk p.d (alW p k) (topW p k) (topW p k) (some l)) ∨ (checkP p = 0 ∧ e = 9 ∧ l = nilLa ∧ ¬ witP p)
def DiR (p q : Par) (l : La) (b : Bool) (e : Nat) : Prop := (diE p q ≠ 0 ∧ e = diE p q ∧ b = false ∧ l = nilLa) ∨ (diE p q = 0 ∧ e = 0 ∧ b = true ∧ ∃ i j, i % 2 ≠ j % 2 ∧ i ≤ 16 ∧ j ≤ 16 ∧ FindOk (prG p q) (alD p q i j) (fun v => decide (f1 p q v = i)) (fun v => decide (f2 q v = j)) (some l)) ∨ (diE p q = 0 ∧ e = 0 ∧ b = false ∧ l = nilLa ∧ ¬ differP p q)
theorem diE_zero {p q : Par} : diE p q = 0 ↔ ValidP p ∧ ValidP q ∧ p.vars = q.vars := by
  unfold diE
  by_cases h1 : checkP p = 0
  · by_cases h2 : checkP q = 0
    · by_cases h3 : p.vars = q.vars
      · rw [if_neg (by simp [h1]), if_neg (by simp [h2]), if_neg (by simp [h3])]
        exact ⟨fun _ => ⟨checkP_zero.1 h1, checkP_zero.1 h2, h3⟩, fun _ => rfl⟩
      · rw [if_neg (by simp [h1]), if_neg (by simp [h2]), if_pos h3]
        exact ⟨fun h => (by cases h), fun h => absurd h.2.2 h3⟩
    · rw [if_neg (by simp [h1]), if_pos h2]
      exact ⟨fun h => absurd h h2, fun h => absurd (checkP_zero.2 h.2.1) h2⟩
  · rw [if_pos h1]
    exact ⟨fun h => absurd h h1, fun h => absurd (checkP_zero.2 h.1) h1⟩
end Go.Lx


namespace Go.Lx
open Go.RowKit
theorem sbY (a : Int) : Instr.sameBits 10000 (KIn a) (KIn a) = true := by simp [Instr.sameBits]
def st3C (sts : List St3) : List Value := sts.flatMap fun q => [.int .i64 (q.1 : Int), .int .i64 q.2.1, .int .u8 (q.2.2 : Int)]
theorem st3_get {sts : List St3} {i : Nat} (h : i < sts.length) (j : Nat) (hj : j < 3) : (st3C sts)[i * 3 + j]? = ([Value.int .i64 (sts[i].1 : Int), .int .i64 sts[i].2.1, .int .u8 (sts[i].2.2 : Int)])[j]? := flatL_get (F := fun q : St3 => [Value.int .i64 (q.1 : Int), .int .i64 q.2.1, .int .u8 (q.2.2 : Int)]) (fun _ => rfl) h j hj
theorem st3_len (sts : List St3) : (st3C sts).length = sts.length * 3 := flatL_len (F := fun q : St3 => [Value.int .i64 (q.1 : Int), .int .i64 q.2.1, .int .u8 (q.2.2 : Int)]) (fun _ => rfl) sts
theorem st3_snoc (sts : List St3) (s : Nat) (b : Int) (x : Nat) : st3C (sts ++ [(s, b, x)]) = st3C sts ++ [.int .i64 (s : Int), .int .i64 b, .int .u8 (x : Int)] := by simp [st3C]
def SeenM (far : Bool) (frm : Nat) (st : List St3) (m : List (Int × Bool)) : Prop := ∀ t : Nat, (lookL ((t : Nat) : Int) m).getD false = true ↔ SeenB far frm st t
theorem SeenM.start (far : Bool) (frm : Nat) : SeenM far frm [(frm, -1, 0)] [(((frm : Nat) : Int), !far)] := fun t => by
  unfold lookL SeenB
  by_cases e : ((t : Nat) : Int) = ((frm : Nat) : Int)
  · rw [if_pos e]
    have e2 : t = frm := by omega
    subst e2
    cases far <;> simp
  · rw [if_neg e]
    have e2 : t ≠ frm := by omega
    unfold lookL
    simp [e2]
theorem SeenM.put {far : Bool} {frm : Nat} {st : List St3} {m : List (Int × Bool)} (h : SeenM far frm st m) (h0 : 0 < st.length) (t : Nat) (b : Int) (x : Nat) : SeenM far frm (st ++ [(t, b, x)]) (putA ((t : Nat) : Int) true m) := fun s => by
  rw [lookY_put]
  unfold SeenB
  rw [drop_app h0]
  by_cases e : ((s : Nat) : Int) = ((t : Nat) : Int)
  · rw [if_pos e]
    have e2 : s = t := by omega
    subst e2
    simp
  · rw [if_neg e, h s]
    have e2 : s ≠ t := by omega
    unfold SeenB
    simp [e2]
theorem pathR_nil {d : DFA} {al to : Nat → Bool} {frm : Nat} (h : to frm = true) : PathR d al to frm false [] frm :=
  ⟨fun x hx => (by cases hx), rfl, h, fun v hv => (by cases hv), fun e => (by cases e), Nat.zero_le _⟩
end Go.Lx


namespace Go.Proofs.YtnikhiohindggaaDoor
open Go.Lx Go.RowKit _root_.Go.Proofs.Tryd
theorem setF (base : World) [Tab Tryd.prog base] (sb m : Nat) (mm : List (Int × Bool)) (u : Nat) :
    CallT Tryd.prog base 54 [.int .i64 ((u : Nat) : Int), .pointer (some ⟨sb, 0, none⟩)] [oI sb 79 [(.map (some m))], mapI KIn Value.bool m mm] (fun v O' => v = .bool (decide (inM mm u = true)) ∧ O' = [oI sb 79 [(.map (some m))], mapI KIn Value.bool m mm]) := by
  refine CallT.enter func54 rfl ntmps54 rfl ?_
  refine T.s (T.rg ?_)
  refine TO.qa rfl ?_
  refine TO.nl (T.s (T.rg ?_))
  refine TO.q (q_lb 0 underlying79 rfl rfl rfl rfl) (TO.qm rfl (TO.q (QT.cast (q_lookup (K := KIn) (V := Value.bool) (a := ((u : Nat) : Int)) underlying79 inf4 (KeyOk.int underlying3) rfl rfl (mG 1 rfl)) (v' := .bool (decide (inM mm u = true))) (by unfold inM; cases lookL ((u : Nat) : Int) mm with | none => rfl | some b => cases b <;> rfl)) (TO.qa rfl ?_)))
  refine TO.nl (T.ret ?_)
  refine Res.one (.bool (decide (inM mm u = true))) Tryd.results54 rfl ?_
  exact ⟨rfl, rfl⟩
theorem outF (base : World) [Tab Tryd.prog base] (n ob : Nat) (rb : Option Addr) (rc : Nat) (o : List Nat) (hl : o.length = n) (s : Nat) (hs : s < n) :
    CallT Tryd.prog base 55 [.int .i64 ((s : Nat) : Int), .pointer (some ⟨ob, 0, none⟩)] [oI ob 23 [(.slice rb n rc)], rowI rb rc 3 1 (nats o)] (fun v O' => v = .int .i64 ((fn o s : Nat) : Int) ∧ O' = [oI ob 23 [(.slice rb n rc)], rowI rb rc 3 1 (nats o)]) := by
  refine CallT.enter func55 rfl ntmps55 rfl ?_
  have hso : s < o.length := by omega
  have hgv : (nats o)[s]? = some (.int .i64 ((fn o s : Nat) : Int)) := by rw [fn_get hso]; exact nats_get hso
  refine T.s (T.rg ?_)
  refine TO.qa rfl ?_
  refine TO.nl (T.s (T.rg ?_))
  refine TO.q (q_lb 0 underlying23 rfl rfl rfl rfl) (TO.qm rfl (TO.q (q_ix (i := s) underlying23 inf3 rfl rfl (rowO (mG 1 rfl)) hs (by rw [List.length_map]; exact hso)) (TO.q (q_ld underlying3 rfl rfl (rowO (mG 1 rfl)) hgv) ?_)))
  refine TO.qa rfl ?_
  refine TO.nl (T.ret ?_)
  refine Res.one (.int .i64 ((fn o s : Nat) : Int)) Tryd.results55 rfl ?_
  exact ⟨rfl, rfl⟩
abbrev redO (p : Par) (k : DK) (gb pb fb ob gx : Nat) (rb : Option Addr) (rc : Nat) (o : List Nat) (m : Nat) (mm : List (Int × Bool)) : List Lx.Item := [oI gb 76 [.int .i64 ((p.next.length : Nat) : Int), (.func (.func 77) #[] #[(.pointer (some ⟨gx, 0, none⟩))])], oI pb 25 (pC p k), oI fb 78 [(.func (.func 52) #[] #[(.pointer (some ⟨gb, 0, none⟩)), (.pointer (some ⟨pb, 0, none⟩)), (.pointer (some ⟨fb, 0, none⟩)), (.pointer (some ⟨ob, 0, none⟩))])], oI ob 23 [(.slice rb p.next.length rc)], oI gx 25 (pC p k), rowI rb rc 3 1 (nats o), mapI KIn Value.bool m mm]
theorem reduceF (base : World) [Tab Tryd.prog base] (p : Par) (k : DK) (h : AtP base p k) (hp : ValidP p) (gb pb fb ob gx : Nat) (rb : Option Addr) (rc : Nat) :
    ∀ (N : Nat) (mm : List (Int × Bool)) (m : Nat) (o : List Nat) (hN : cardS p.next.length (fun u => inM mm u = true) = N) (hS : ∀ u, inM mm u = true → u < p.next.length) (hol : o.length = p.next.length) (h0 : ∀ u, inM mm u = true → fn o u = 0),
    CallT Tryd.prog base 52 [(.map (some m)), (.pointer (some ⟨gb, 0, none⟩)), (.pointer (some ⟨pb, 0, none⟩)), (.pointer (some ⟨fb, 0, none⟩)), (.pointer (some ⟨ob, 0, none⟩))] (redO p k gb pb fb ob gx rb rc o m mm) (fun v O' => ∃ o2 most, v = .int .i64 ((most : Nat) : Int) ∧ O' = redO p k gb pb fb ob gx rb rc o2 m mm ∧ o2.length = p.next.length ∧ RedE (DE p.d) (prN p) (fun u => inM mm u = true) (fn o) (fn o2) most) := by
  intro N
  induction N using Nat.strongRecOn with
  | _ N ih => ?_
  intro mm m o hN hS hol h0
  refine CallT.enter func52 rfl ntmps52 rfl ?_
  have hn4 := hp.n4
  refine T.s (T.rg ?_)
  refine TO.l rfl (l_box (v := (.map (some m))) (cs := [(.map (some m))]) rfl rfl (fun z1 => ?_))
  refine TO.qa rfl ?_
  refine TO.nl (T.s (T.s (T.rg ?_)))
  refine TO.q (q_la 1 underlying76 rfl inf76 rfl rfl rfl) (TO.q (q_makeFunc) ?_)
  have hk20 := CallT.atR (O := [oI z1 79 [(.map (some m))], oI gb 76 [.int .i64 ((p.next.length : Nat) : Int), (.func (.func 77) #[] #[(.pointer (some ⟨gx, 0, none⟩))])], oI pb 25 (pC p k), oI fb 78 [(.func (.func 52) #[] #[(.pointer (some ⟨gb, 0, none⟩)), (.pointer (some ⟨pb, 0, none⟩)), (.pointer (some ⟨fb, 0, none⟩)), (.pointer (some ⟨ob, 0, none⟩))])], oI ob 23 [(.slice rb p.next.length rc)], oI gx 25 (pC p k), rowI rb rc 3 1 (nats o), mapI KIn Value.bool m mm]) [oI gb 76 [.int .i64 ((p.next.length : Nat) : Int), (.func (.func 77) #[] #[(.pointer (some ⟨gx, 0, none⟩))])], oI pb 25 (pC p k), oI fb 78 [(.func (.func 52) #[] #[(.pointer (some ⟨gb, 0, none⟩)), (.pointer (some ⟨pb, 0, none⟩)), (.pointer (some ⟨fb, 0, none⟩)), (.pointer (some ⟨ob, 0, none⟩))])], oI ob 23 [(.slice rb p.next.length rc)], rowI rb rc 3 1 (nats o)] (componentsC base p k h hp.val hp.n4 hp.letN6 (DE_lt hp.val) [oI z1 79 [(.map (some m))], mapI KIn Value.bool m mm] (inM mm) (.func (.func 54) #[] #[(.pointer (some ⟨z1, 0, none⟩))]) rfl (fun u hu => CallV.of_fn (first := []) (args := [.int .i64 ((u : Nat) : Int)]) (caps := [(.pointer (some ⟨z1, 0, none⟩))]) ent54 (setF base z1 m mm u)) gx) (by exact Sub.pull [oI z1 79 [(.map (some m))]] _ (.pull [oI z1 79 [(.map (some m))]] _ (.pull [oI z1 79 [(.map (some m))]] _ (.pull [oI z1 79 [(.map (some m))]] _ (.pull [oI z1 79 [(.map (some m))], oI gx 25 (pC p k)] _ (.pull [oI z1 79 [(.map (some m))]] _ (.k (.k .z))))))))
  refine TO.l rfl (l_call ent53 hk20 rfl ?_)
  clear hk20
  rintro vr O' ⟨A1, rfl, all, ab, ac, ps, rfl, rfl, hps, hpo⟩
  have hpl := parts_len hps
  have hfew := hpo.few
  refine TO.q (q_len underlying22 rfl) (TO.qm rfl ?_)
  refine TO.nl (T.block ?_)
  refine T.loopS (fun (i : Nat) ρ O => ∃ (o2 : List Nat) (most : Nat), O = ([oI gb 76 [.int .i64 ((p.next.length : Nat) : Int), (.func (.func 77) #[] #[(.pointer (some ⟨gx, 0, none⟩))])], oI pb 25 (pC p k), oI fb 78 [(.func (.func 52) #[] #[(.pointer (some ⟨gb, 0, none⟩)), (.pointer (some ⟨pb, 0, none⟩)), (.pointer (some ⟨fb, 0, none⟩)), (.pointer (some ⟨ob, 0, none⟩))])], oI ob 23 [(.slice rb p.next.length rc)], rowI rb rc 3 1 (nats o2), rowI ab ac 23 1 (vals ps), oI gx 25 (pC p k), oI z1 79 [(.map (some m))], mapI KIn Value.bool m mm] ++ (itms 3 ps)) ∧ i ≤ all.length ∧ most ≤ 17 ∧ o2.length = p.next.length ∧ RedI (DE p.d) (prN p) (fn o) (fn o2) (all.take i) most ∧ Heads [(0, (.map (some m))), (1, (.pointer (some ⟨gb, 0, none⟩))), (2, (.pointer (some ⟨pb, 0, none⟩))), (3, (.pointer (some ⟨fb, 0, none⟩))), (4, (.pointer (some ⟨ob, 0, none⟩))), (5, (.pointer (some ⟨z1, 0, none⟩))), (6, .int .i64 ((most : Nat) : Int)), (20, (.slice ab ps.length ac)), (21, .int .i64 (ps.length : Int)), (22, .int .i64 ((i : Nat) : Int))] ρ) (fun i => all.length - i) 0 ?_ ?_
  · exact ⟨o, 0, rfl, Nat.zero_le _, Nat.zero_le _, hol, RedI.start _ _ _, ⟨rfl, rfl, rfl, rfl, rfl, rfl, rfl, rfl, rfl, rfl, trivial⟩⟩
  rintro i ρ O ⟨o2, most, rfl, hi, hmo, hol2, hRI, hH⟩
  obtain ⟨ρ0, rfl⟩ := hH.elim
  clear hH
  refine T.s (T.rg ?_)
  refine TO.q (q_lss rfl rfl) ?_
  refine TO.nl (T.s ?_)
  refine T.condP rfl (fun hc => ?_) (fun hc => ?_)
  · have hlt23 : i < ps.length := by omega
    have hil : i < all.length := by omega
    obtain ⟨l, hle⟩ : ∃ l, all[i] = l := ⟨_, rfl⟩
    obtain ⟨rb9, rc9, hRi⟩ := part_rec hps hil
    rw [hle] at hRi
    have hi2 : i < ps.length := by omega
    have hlm : l ∈ all := hle ▸ List.getElem_mem hil
    have hln := hpo.ne l hlm
    have hsub := hpo.sub l hlm
    have hmxl := mxP_is (pr := prN p) hln
    have hdj : ∀ Q ∈ all.take i, ∀ v ∈ Q, v ∉ l := fun Q hQ v hv => hle ▸ take_disj hpo.nd hil Q hQ v hv
    have hll : l.length ≤ 4096 := by
      have h1 := hpo.len
      have h2 : l.length ≤ all.flatten.length := (List.sublist_flatten_of_mem hlm).length_le
      omega
    refine T.skip (T.s (T.block (T.s (T.rg ?_))))
    refine TO.q (q_ix (i := i) underlying22 inf23 rfl rfl (rowO (mG 5 rfl)) hi2 (by rw [List.length_map]; exact hi2)) (TO.q (q_ld underlying23 rfl rfl (rowO (mG 5 rfl)) (part_val hRi)) (TO.qa rfl ?_))
    refine TO.nl (T.s (T.rg ?_))
    refine TO.qa rfl ?_
    refine TO.nl (T.s (T.s (T.rg ?_)))
    refine TO.qm rfl (TO.q (q_len underlying23 rfl) (TO.qm rfl ?_))
    refine TO.nl (T.block ?_)
    refine T.loop (fun (j2 : Nat) ρ O => O = ([oI gb 76 [.int .i64 ((p.next.length : Nat) : Int), (.func (.func 77) #[] #[(.pointer (some ⟨gx, 0, none⟩))])], oI pb 25 (pC p k), oI fb 78 [(.func (.func 52) #[] #[(.pointer (some ⟨gb, 0, none⟩)), (.pointer (some ⟨pb, 0, none⟩)), (.pointer (some ⟨fb, 0, none⟩)), (.pointer (some ⟨ob, 0, none⟩))])], oI ob 23 [(.slice rb p.next.length rc)], rowI rb rc 3 1 (nats o2), rowI ab ac 23 1 (vals ps), oI gx 25 (pC p k), oI z1 79 [(.map (some m))], mapI KIn Value.bool m mm] ++ (itms 3 ps)) ∧ j2 ≤ l.length ∧ Heads [(0, (.map (some m))), (1, (.pointer (some ⟨gb, 0, none⟩))), (2, (.pointer (some ⟨pb, 0, none⟩))), (3, (.pointer (some ⟨fb, 0, none⟩))), (4, (.pointer (some ⟨ob, 0, none⟩))), (5, (.pointer (some ⟨z1, 0, none⟩))), (6, .int .i64 ((most : Nat) : Int)), (8, (.slice rb9 l.length rc9)), (9, .int .i64 ((mxP (prN p) (l.take j2) : Nat) : Int)), (20, (.slice ab ps.length ac)), (21, .int .i64 (ps.length : Int)), (22, .int .i64 ((i : Nat) : Int)), (26, (.slice rb9 l.length rc9)), (27, .int .i64 (l.length : Int)), (28, .int .i64 ((j2 : Nat) : Int))] ρ) (fun j2 => l.length - j2) 0 ?_ ?_
    · exact ⟨rfl, Nat.zero_le _, ⟨rfl, rfl, rfl, rfl, rfl, rfl, rfl, rfl, rfl, rfl, rfl, rfl, rfl, rfl, rfl, trivial⟩⟩
    rintro j2 ρ O ⟨rfl, hj2, hH⟩
    obtain ⟨ρ0, rfl⟩ := hH.elim
    clear hH
    refine T.s (T.rg ?_)
    refine TO.q (q_lss rfl rfl) ?_
    refine TO.nl (T.s ?_)
    refine T.condP rfl (fun hc => ?_) (fun hc => ?_)
    · have hlt29 : j2 < l.length := by omega
      have hjl2 : j2 < l.length := by omega
      obtain ⟨hjn, hjS⟩ := hsub _ (List.getElem_mem hjl2)
      have hjp : l[j2] < p.prio.length := by rw [hp.pl]; exact hjn
      have hpb := hp.prLe l[j2]
      refine T.skip (T.s (T.block (T.s (T.rg ?_))))
      refine TO.q (q_ix (i := j2) underlying23 inf3 rfl rfl (fun w9 hI9 => hI9.slOf (List.mem_append_right _ (part_row hRi))) hjl2 (by rw [List.length_map]; exact hjl2)) (TO.q (q_ld underlying3 rfl rfl (fun w9 hI9 => hI9.slOf (List.mem_append_right _ (part_row hRi))) (nats_get hjl2)) (TO.qa rfl ?_))
      refine TO.nl (T.rg ?_)
      refine TO.qm rfl (TO.q (q_fa underlying25 rfl inf23 rfl rfl) (TO.q (q_lb 1 underlying23 rfl rfl rfl rfl) (TO.qm rfl ?_)))
      refine TO.q (q_ix (i := l[j2]) underlying23 inf3 rfl rfl (Sl.o h.prio) hjp (by rw [List.length_map]; exact hjp)) (TO.q (q_ld underlying3 rfl rfl (Sl.o h.prio) (by rw [ints, List.getElem?_map, hp.prAt hjn]; rfl)) (TO.q (q_maxN (a := (mxP (prN p) (l.take j2))) (b := (prN p l[j2])) rfl rfl) (TO.qa rfl ?_)))
      refine TO.nl (T.rg ?_)
      refine TO.q (q_addN (a := j2) (b := 1) rfl rfl (by omega)) (TO.qm rfl ?_)
      refine TO.nl ?_
      exact ⟨j2 + 1, by omega, rfl, by omega, ⟨rfl, rfl, rfl, rfl, rfl, rfl, rfl, rfl, (by rw [mxP_take hjl2]; rfl), rfl, rfl, rfl, rfl, rfl, rfl, trivial⟩⟩
    have hge29 : ¬ j2 < l.length := by omega
    refine T.exit ?_
    refine T.s (T.rg ?_)
    refine TO.l rfl (l_makeMap KIn Value.bool (fun mq2 => ?_))
    refine TO.qa rfl ?_
    refine TO.nl (T.s (T.s (T.rg ?_)))
    refine TO.qm rfl (TO.q (q_len underlying23 rfl) (TO.qm rfl ?_))
    refine TO.nl (T.block ?_)
    refine T.loopS (fun (j : Nat) ρ O => ∃ (mr : List (Int × Bool)), O = ([mapI KIn Value.bool mq2 mr, oI gb 76 [.int .i64 ((p.next.length : Nat) : Int), (.func (.func 77) #[] #[(.pointer (some ⟨gx, 0, none⟩))])], oI pb 25 (pC p k), oI fb 78 [(.func (.func 52) #[] #[(.pointer (some ⟨gb, 0, none⟩)), (.pointer (some ⟨pb, 0, none⟩)), (.pointer (some ⟨fb, 0, none⟩)), (.pointer (some ⟨ob, 0, none⟩))])], oI ob 23 [(.slice rb p.next.length rc)], rowI rb rc 3 1 (nats o2), rowI ab ac 23 1 (vals ps), oI gx 25 (pC p k), oI z1 79 [(.map (some m))], mapI KIn Value.bool m mm] ++ (itms 3 ps)) ∧ j ≤ l.length ∧ (∀ u, inM mr u = decide (u ∈ l.take j ∧ prN p u < mxP (prN p) (l.take j2))) ∧ Heads [(0, (.map (some m))), (1, (.pointer (some ⟨gb, 0, none⟩))), (2, (.pointer (some ⟨pb, 0, none⟩))), (3, (.pointer (some ⟨fb, 0, none⟩))), (4, (.pointer (some ⟨ob, 0, none⟩))), (5, (.pointer (some ⟨z1, 0, none⟩))), (6, .int .i64 ((most : Nat) : Int)), (8, (.slice rb9 l.length rc9)), (9, .int .i64 ((mxP (prN p) (l.take j2) : Nat) : Int)), (12, (.map (some mq2))), (20, (.slice ab ps.length ac)), (21, .int .i64 (ps.length : Int)), (22, .int .i64 ((i : Nat) : Int)), (41, (.slice rb9 l.length rc9)), (42, .int .i64 (l.length : Int)), (43, .int .i64 ((j : Nat) : Int))] ρ) (fun j => l.length - j) 0 ?_ ?_
    · exact ⟨[], rfl, Nat.zero_le _, (fun u => by simp [inM_nil]), ⟨rfl, rfl, rfl, rfl, rfl, rfl, rfl, rfl, rfl, rfl, rfl, rfl, rfl, rfl, rfl, rfl, trivial⟩⟩
    rintro j ρ O ⟨mr, rfl, hj, hmr, hH⟩
    obtain ⟨ρ0, rfl⟩ := hH.elim
    clear hH
    refine T.s (T.rg ?_)
    refine TO.q (q_lss rfl rfl) ?_
    refine TO.nl (T.s ?_)
    refine T.condP rfl (fun hc => ?_) (fun hc => ?_)
    · have hlt44 : j < l.length := by omega
      have hjl : j < l.length := by omega
      obtain ⟨hjn, hjS⟩ := hsub _ (List.getElem_mem hjl)
      have hjp : l[j] < p.prio.length := by rw [hp.pl]; exact hjn
      have hpb := hp.prLe l[j]
      refine T.skip (T.s (T.block (T.s (T.rg ?_))))
      refine TO.q (q_ix (i := j) underlying23 inf3 rfl rfl (fun w9 hI9 => hI9.slOf (List.mem_append_right _ (part_row hRi))) hjl (by rw [List.length_map]; exact hjl)) (TO.q (q_ld underlying3 rfl rfl (fun w9 hI9 => hI9.slOf (List.mem_append_right _ (part_row hRi))) (nats_get hjl)) (TO.qa rfl ?_))
      refine TO.nl (T.s (T.rg ?_))
      refine TO.q (q_fa underlying25 rfl inf23 rfl rfl) (TO.q (q_lb 2 underlying23 rfl rfl rfl rfl) (TO.qm rfl (TO.q (q_ix (i := l[j]) underlying23 inf3 rfl rfl (Sl.o h.prio) hjp (by rw [List.length_map]; exact hjp)) ?_)))
      refine TO.q (q_ld underlying3 rfl rfl (Sl.o h.prio) (by rw [ints, List.getElem?_map, hp.prAt hjn]; rfl)) (TO.qm rfl (TO.q (q_lss rfl rfl) ?_))
      refine TO.nl ?_
      refine T.condP rfl (fun hc => ?_) (fun hc => ?_)
      · have hlt53 : prN p l[j] < mxP (prN p) (l.take j2) := by omega
        refine T.rg ?_
        refine TO.qm rfl (TO.qm rfl ?_)
        refine TO.l rfl (l_mapPutA (K := KIn) (V := Value.bool) (a := ((l[j] : Nat) : Int)) (v := true) 0 underlying79 (KeyOk.int underlying3) (sbY _) rfl rfl rfl rfl ?_)
        refine TO.nl (T.rg ?_)
        refine TO.q (q_addN (a := j) (b := 1) rfl rfl (by omega)) (TO.qm rfl ?_)
        refine TO.nl ?_
        exact ⟨j + 1, by omega, ([mapI KIn Value.bool mq2 (putA ((l[j] : Nat) : Int) true mr), oI gb 76 [.int .i64 ((p.next.length : Nat) : Int), (.func (.func 77) #[] #[(.pointer (some ⟨gx, 0, none⟩))])], oI pb 25 (pC p k), oI fb 78 [(.func (.func 52) #[] #[(.pointer (some ⟨gb, 0, none⟩)), (.pointer (some ⟨pb, 0, none⟩)), (.pointer (some ⟨fb, 0, none⟩)), (.pointer (some ⟨ob, 0, none⟩))])], oI ob 23 [(.slice rb p.next.length rc)], rowI rb rc 3 1 (nats o2), rowI ab ac 23 1 (vals ps), oI gx 25 (pC p k), oI z1 79 [(.map (some m))], mapI KIn Value.bool m mm] ++ (itms 3 ps)), (by exact Sub.rf), putA ((l[j] : Nat) : Int) true mr, rfl, by omega, inM_rest hjl hmr hlt53, ⟨rfl, rfl, rfl, rfl, rfl, rfl, rfl, rfl, rfl, rfl, rfl, rfl, rfl, rfl, rfl, rfl, trivial⟩⟩
      have hge53 : ¬ prN p l[j] < mxP (prN p) (l.take j2) := by omega
      refine T.skip (T.rg ?_)
      refine TO.q (q_addN (a := j) (b := 1) rfl rfl (by omega)) (TO.qm rfl ?_)
      refine TO.nl ?_
      exact ⟨j + 1, by omega, ([mapI KIn Value.bool mq2 mr, oI gb 76 [.int .i64 ((p.next.length : Nat) : Int), (.func (.func 77) #[] #[(.pointer (some ⟨gx, 0, none⟩))])], oI pb 25 (pC p k), oI fb 78 [(.func (.func 52) #[] #[(.pointer (some ⟨gb, 0, none⟩)), (.pointer (some ⟨pb, 0, none⟩)), (.pointer (some ⟨fb, 0, none⟩)), (.pointer (some ⟨ob, 0, none⟩))])], oI ob 23 [(.slice rb p.next.length rc)], rowI rb rc 3 1 (nats o2), rowI ab ac 23 1 (vals ps), oI gx 25 (pC p k), oI z1 79 [(.map (some m))], mapI KIn Value.bool m mm] ++ (itms 3 ps)), (by exact Sub.rf), mr, rfl, by omega, inM_skip hjl hmr hge53, ⟨rfl, rfl, rfl, rfl, rfl, rfl, rfl, rfl, rfl, rfl, rfl, rfl, rfl, rfl, rfl, rfl, trivial⟩⟩
    have hge44 : ¬ j < l.length := by omega
    refine T.exit ?_
    refine T.s ?_
    have hj2e : l.take j2 = l := List.take_of_length_le (by omega)
    have hjle : l.take j = l := List.take_of_length_le (by omega)
    have hmr2 : ∀ u, inM mr u = true ↔ u ∈ l ∧ prN p u < mxP (prN p) (l.take j2) := fun u => by rw [hmr u, decide_eq_true_eq, hjle]
    have hrest2 : (fun u => inM mr u = true) = fun u => u ∈ l ∧ prN p u < mxP (prN p) (l.take j2) := funext fun u => propext (hmr2 u)
    have hSr : ∀ u, inM mr u = true → u < p.next.length := fun u hu => (hsub u ((hmr2 u).1 hu).1).1
    have h0r : ∀ u, inM mr u = true → fn o2 u = 0 := fun u hu => by
      rw [hRI.out u (fun Q hQ hm9 => hdj Q hQ u hm9 ((hmr2 u).1 hu).1)]
      exact h0 u (hsub u ((hmr2 u).1 hu).1).2
    have hless : cardS p.next.length (fun u => inM mr u = true) < N := by
      rw [← hN]
      obtain ⟨u9, hu9, hue⟩ := hmxl.1
      exact cardS_lt (fun u hu => (hsub u ((hmr2 u).1 hu).1).2) (hsub u9 hu9).1 (hsub u9 hu9).2 (fun g => by have g2 := ((hmr2 u9).1 g).2; rw [hj2e] at g2; omega)
    refine T.rg ?_
    refine TO.q (q_lb 3 underlying78 rfl rfl rfl rfl) (TO.qm rfl ?_)
    have hk59 := CallV.under (A := [oI gb 76 [.int .i64 ((p.next.length : Nat) : Int), (.func (.func 77) #[] #[(.pointer (some ⟨gx, 0, none⟩))])], oI pb 25 (pC p k), oI fb 78 [(.func (.func 52) #[] #[(.pointer (some ⟨gb, 0, none⟩)), (.pointer (some ⟨pb, 0, none⟩)), (.pointer (some ⟨fb, 0, none⟩)), (.pointer (some ⟨ob, 0, none⟩))])], oI ob 23 [(.slice rb p.next.length rc)], oI gx 25 (pC p k), rowI rb rc 3 1 (nats o2), mapI KIn Value.bool mq2 mr]) (B := [rowI ab ac 23 1 (vals ps), oI z1 79 [(.map (some m))], mapI KIn Value.bool m mm] ++ (itms 3 ps)) (O := ([mapI KIn Value.bool mq2 mr, oI gb 76 [.int .i64 ((p.next.length : Nat) : Int), (.func (.func 77) #[] #[(.pointer (some ⟨gx, 0, none⟩))])], oI pb 25 (pC p k), oI fb 78 [(.func (.func 52) #[] #[(.pointer (some ⟨gb, 0, none⟩)), (.pointer (some ⟨pb, 0, none⟩)), (.pointer (some ⟨fb, 0, none⟩)), (.pointer (some ⟨ob, 0, none⟩))])], oI ob 23 [(.slice rb p.next.length rc)], rowI rb rc 3 1 (nats o2), rowI ab ac 23 1 (vals ps), oI gx 25 (pC p k), oI z1 79 [(.map (some m))], mapI KIn Value.bool m mm] ++ (itms 3 ps))) (CallV.of_fn (first := []) (args := [(.map (some mq2))]) (caps := [(.pointer (some ⟨gb, 0, none⟩)), (.pointer (some ⟨pb, 0, none⟩)), (.pointer (some ⟨fb, 0, none⟩)), (.pointer (some ⟨ob, 0, none⟩))]) ent52 (ih _ hless mr mq2 o2 rfl hSr hol2 h0r)) (by exact Sub.pull [mapI KIn Value.bool mq2 mr] _ (.pull [mapI KIn Value.bool mq2 mr] _ (.pull [mapI KIn Value.bool mq2 mr] _ (.pull [mapI KIn Value.bool mq2 mr] _ (.pull [mapI KIn Value.bool mq2 mr, rowI rb rc 3 1 (nats o2), rowI ab ac 23 1 (vals ps)] _ (.pull [mapI KIn Value.bool mq2 mr] _ (.k (.k (.k (.k .rf))))))))))
    refine TO.l rfl (l_callG hk59 rfl rfl ?_)
    clear hk59
    rintro vr O' ⟨A1, rfl, o3, k3, rfl, rfl, hol3, hrE⟩
    have hk3 : k3 ≤ 16 := hrE.le hSr hp.prLe
    have hm16 : mxP (prN p) (l.take j2) ≤ 16 := mxP_le hp.prLe _
    refine TO.qa rfl ?_
    refine TO.nl (T.s (T.rg ?_))
    refine TO.qm rfl (TO.qm rfl (TO.qm rfl (TO.q (q_addN (a := k3) (b := (mxP (prN p) (l.take j2))) rfl rfl (by omega)) ?_)))
    refine TO.q (q_remN (a := (k3 + (mxP (prN p) (l.take j2)))) (b := 2) rfl rfl (by omega)) (TO.q (q_addN (a := k3) (b := ((k3 + (mxP (prN p) (l.take j2))) % 2)) rfl rfl (by omega)) (TO.qa rfl ?_))
    refine TO.nl (T.s (T.s (T.rg ?_)))
    refine TO.qm rfl (TO.q (q_len underlying23 rfl) (TO.qm rfl ?_))
    refine TO.nl (T.block ?_)
    refine T.loopS (fun (j4 : Nat) ρ O => ∃ (o4 : List Nat), O = ([oI gb 76 [.int .i64 ((p.next.length : Nat) : Int), (.func (.func 77) #[] #[(.pointer (some ⟨gx, 0, none⟩))])], oI pb 25 (pC p k), oI fb 78 [(.func (.func 52) #[] #[(.pointer (some ⟨gb, 0, none⟩)), (.pointer (some ⟨pb, 0, none⟩)), (.pointer (some ⟨fb, 0, none⟩)), (.pointer (some ⟨ob, 0, none⟩))])], oI ob 23 [(.slice rb p.next.length rc)], oI gx 25 (pC p k), rowI rb rc 3 1 (nats o4), mapI KIn Value.bool mq2 mr, rowI ab ac 23 1 (vals ps), oI z1 79 [(.map (some m))], mapI KIn Value.bool m mm] ++ (itms 3 ps)) ∧ j4 ≤ l.length ∧ o4.length = p.next.length ∧ (∀ u, fn o4 u = if u ∈ l.take j4 ∧ ¬ prN p u < mxP (prN p) (l.take j2) then k3 + (k3 + mxP (prN p) (l.take j2)) % 2 else fn o3 u) ∧ Heads [(0, (.map (some m))), (1, (.pointer (some ⟨gb, 0, none⟩))), (2, (.pointer (some ⟨pb, 0, none⟩))), (3, (.pointer (some ⟨fb, 0, none⟩))), (4, (.pointer (some ⟨ob, 0, none⟩))), (5, (.pointer (some ⟨z1, 0, none⟩))), (6, .int .i64 ((most : Nat) : Int)), (8, (.slice rb9 l.length rc9)), (9, .int .i64 ((mxP (prN p) (l.take j2) : Nat) : Int)), (12, (.map (some mq2))), (15, .int .i64 ((k3 + ((k3 + (mxP (prN p) (l.take j2))) % 2) : Nat) : Int)), (20, (.slice ab ps.length ac)), (21, .int .i64 (ps.length : Int)), (22, .int .i64 ((i : Nat) : Int)), (66, (.slice rb9 l.length rc9)), (67, .int .i64 (l.length : Int)), (68, .int .i64 ((j4 : Nat) : Int))] ρ) (fun j4 => l.length - j4) 0 ?_ ?_
    · exact ⟨o3, rfl, Nat.zero_le _, hol3, (fun u => by simp), ⟨rfl, rfl, rfl, rfl, rfl, rfl, rfl, rfl, rfl, rfl, rfl, rfl, rfl, rfl, rfl, rfl, rfl, trivial⟩⟩
    rintro j4 ρ O ⟨o4, rfl, hj4, hol4, hs4, hH⟩
    obtain ⟨ρ0, rfl⟩ := hH.elim
    clear hH
    refine T.s (T.rg ?_)
    refine TO.q (q_lss rfl rfl) ?_
    refine TO.nl (T.s ?_)
    refine T.condP rfl (fun hc => ?_) (fun hc => ?_)
    · have hlt69 : j4 < l.length := by omega
      have hjl4 : j4 < l.length := by omega
      obtain ⟨hjn, hjS⟩ := hsub _ (List.getElem_mem hjl4)
      have hjp : l[j4] < p.prio.length := by rw [hp.pl]; exact hjn
      have hpb := hp.prLe l[j4]
      have hin4 : inM mr l[j4] = decide (prN p l[j4] < mxP (prN p) (l.take j2)) := by rw [hmr, hjle]; exact decide_eq_decide.2 ⟨fun g => g.2, fun g => ⟨List.getElem_mem hjl4, g⟩⟩
      refine T.skip (T.s (T.block (T.s (T.rg ?_))))
      refine TO.q (q_ix (i := j4) underlying23 inf3 rfl rfl (fun w9 hI9 => hI9.slOf (List.mem_append_right _ (part_row hRi))) hjl4 (by rw [List.length_map]; exact hjl4)) (TO.q (q_ld underlying3 rfl rfl (fun w9 hI9 => hI9.slOf (List.mem_append_right _ (part_row hRi))) (nats_get hjl4)) (TO.qa rfl ?_))
      refine TO.nl (T.s (T.rg ?_))
      refine TO.qm rfl (TO.qm rfl (TO.q (QT.cast (q_lookup (K := KIn) (V := Value.bool) (a := ((l[j4] : Nat) : Int)) underlying79 inf4 (KeyOk.int underlying3) rfl rfl (mG 6 rfl)) (v' := .bool (inM mr l[j4])) (by unfold inM; cases lookL ((l[j4] : Nat) : Int) mr with | none => rfl | some b => cases b <;> rfl)) (TO.q (q_not rfl) ?_)))
      refine TO.nl ?_
      refine T.condP (p := ¬ prN p l[j4] < mxP (prN p) (l.take j2)) (congrArg Value.bool (by rw [hin4, decide_not])) (fun hc => ?_) (fun hc => ?_)
      · have hge75 : ¬ prN p l[j4] < mxP (prN p) (l.take j2) := hc
        refine T.rg ?_
        refine TO.q (q_lb 3 underlying23 rfl rfl rfl rfl) (TO.qm rfl (TO.qm rfl (TO.q (q_ix (i := l[j4]) underlying23 inf3 rfl rfl (rowO (mG 5 rfl)) hjn (by rw [List.length_map]; omega)) ?_)))
        refine TO.l rfl (l_st (j := l[j4]) (v := .int .i64 ((k3 + ((k3 + (mxP (prN p) (l.take j2))) % 2) : Nat) : Int)) (vs := [(.int .i64 ((k3 + ((k3 + (mxP (prN p) (l.take j2))) % 2) : Nat) : Int))]) (cs := nats o4) 5 inf3 rfl rfl rfl rfl rfl (by simp) rfl (by first | (simp; omega) | (simp_all; omega)) ?_)
        refine TO.sub (O' := ([oI gb 76 [.int .i64 ((p.next.length : Nat) : Int), (.func (.func 77) #[] #[(.pointer (some ⟨gx, 0, none⟩))])], oI pb 25 (pC p k), oI fb 78 [(.func (.func 52) #[] #[(.pointer (some ⟨gb, 0, none⟩)), (.pointer (some ⟨pb, 0, none⟩)), (.pointer (some ⟨fb, 0, none⟩)), (.pointer (some ⟨ob, 0, none⟩))])], oI ob 23 [(.slice rb p.next.length rc)], oI gx 25 (pC p k), rowI rb rc 3 1 (nats (o4.set l[j4] (k3 + (k3 + mxP (prN p) (l.take j2)) % 2))), mapI KIn Value.bool mq2 mr, rowI ab ac 23 1 (vals ps), oI z1 79 [(.map (some m))], mapI KIn Value.bool m mm] ++ (itms 3 ps))) (by rw [show putL (nats o4) l[j4] [(.int .i64 ((k3 + ((k3 + (mxP (prN p) (l.take j2))) % 2) : Nat) : Int))] = nats (o4.set l[j4] (k3 + (k3 + mxP (prN p) (l.take j2)) % 2)) from (by simp [putL])]; exact Sub.of (List.Sublist.refl _)) ?_
        refine TO.nl (T.rg ?_)
        refine TO.q (q_addN (a := j4) (b := 1) rfl rfl (by omega)) (TO.qm rfl ?_)
        refine TO.nl ?_
        exact ⟨j4 + 1, by omega, ([oI gb 76 [.int .i64 ((p.next.length : Nat) : Int), (.func (.func 77) #[] #[(.pointer (some ⟨gx, 0, none⟩))])], oI pb 25 (pC p k), oI fb 78 [(.func (.func 52) #[] #[(.pointer (some ⟨gb, 0, none⟩)), (.pointer (some ⟨pb, 0, none⟩)), (.pointer (some ⟨fb, 0, none⟩)), (.pointer (some ⟨ob, 0, none⟩))])], oI ob 23 [(.slice rb p.next.length rc)], oI gx 25 (pC p k), rowI rb rc 3 1 (nats (o4.set l[j4] (k3 + (k3 + mxP (prN p) (l.take j2)) % 2))), mapI KIn Value.bool mq2 mr, rowI ab ac 23 1 (vals ps), oI z1 79 [(.map (some m))], mapI KIn Value.bool m mm] ++ (itms 3 ps)), (by exact Sub.rf), o4.set l[j4] (k3 + (k3 + mxP (prN p) (l.take j2)) % 2), rfl, by omega, by simp [hol4], top_set hjl4 (by omega) hs4 hge75, ⟨rfl, rfl, rfl, rfl, rfl, rfl, rfl, rfl, rfl, rfl, rfl, rfl, rfl, rfl, rfl, rfl, rfl, trivial⟩⟩
      have hlt75 : prN p l[j4] < mxP (prN p) (l.take j2) := Classical.not_not.1 hc
      refine T.skip (T.rg ?_)
      refine TO.q (q_addN (a := j4) (b := 1) rfl rfl (by omega)) (TO.qm rfl ?_)
      refine TO.nl ?_
      exact ⟨j4 + 1, by omega, ([oI gb 76 [.int .i64 ((p.next.length : Nat) : Int), (.func (.func 77) #[] #[(.pointer (some ⟨gx, 0, none⟩))])], oI pb 25 (pC p k), oI fb 78 [(.func (.func 52) #[] #[(.pointer (some ⟨gb, 0, none⟩)), (.pointer (some ⟨pb, 0, none⟩)), (.pointer (some ⟨fb, 0, none⟩)), (.pointer (some ⟨ob, 0, none⟩))])], oI ob 23 [(.slice rb p.next.length rc)], oI gx 25 (pC p k), rowI rb rc 3 1 (nats o4), mapI KIn Value.bool mq2 mr, rowI ab ac 23 1 (vals ps), oI z1 79 [(.map (some m))], mapI KIn Value.bool m mm] ++ (itms 3 ps)), (by exact Sub.rf), o4, rfl, by omega, hol4, top_skip hjl4 hs4 hlt75, ⟨rfl, rfl, rfl, rfl, rfl, rfl, rfl, rfl, rfl, rfl, rfl, rfl, rfl, rfl, rfl, rfl, rfl, trivial⟩⟩
    have hge69 : ¬ j4 < l.length := by omega
    refine T.exit ?_
    have hj4e : l.take j4 = l := List.take_of_length_le (by omega)
    refine T.rg ?_
    refine TO.qm rfl (TO.qm rfl (TO.q (q_maxN (a := most) (b := (k3 + ((k3 + (mxP (prN p) (l.take j2))) % 2))) rfl rfl) (TO.qa rfl ?_)))
    refine TO.nl (T.rg ?_)
    refine TO.q (q_addN (a := i) (b := 1) rfl rfl (by omega)) (TO.qm rfl ?_)
    refine TO.nl ?_
    refine ⟨i + 1, by omega, ([oI gb 76 [.int .i64 ((p.next.length : Nat) : Int), (.func (.func 77) #[] #[(.pointer (some ⟨gx, 0, none⟩))])], oI pb 25 (pC p k), oI fb 78 [(.func (.func 52) #[] #[(.pointer (some ⟨gb, 0, none⟩)), (.pointer (some ⟨pb, 0, none⟩)), (.pointer (some ⟨fb, 0, none⟩)), (.pointer (some ⟨ob, 0, none⟩))])], oI ob 23 [(.slice rb p.next.length rc)], rowI rb rc 3 1 (nats o4), rowI ab ac 23 1 (vals ps), oI gx 25 (pC p k), oI z1 79 [(.map (some m))], mapI KIn Value.bool m mm] ++ (itms 3 ps)), (by exact Sub.k (.k (.k (.k (.pull [oI gx 25 (pC p k)] _ (.pull [oI gx 25 (pC p k), mapI KIn Value.bool mq2 mr] _ (.k (.d (.k (.k .rf)))))))))), o4, max most (k3 + (k3 + mxP (prN p) (l.take j2)) % 2), rfl, by omega, by omega, hol4, ?_, ⟨rfl, rfl, rfl, rfl, rfl, rfl, rfl, rfl, rfl, rfl, trivial⟩⟩
    rw [List.take_succ_eq_append_getElem hil, hle]
    rw [hj4e] at hs4
    exact hRI.step hdj (show IsMax (prN p) (fun u => u ∈ l) (mxP (prN p) (l.take j2)) by rw [hj2e]; exact hmxl) (by rw [← hrest2]; exact hrE.red) (fun v hv => hrE.out v (fun g => hv ((hmr2 v).1 g))) (by rw [← hrest2]; exact hrE.max) hs4
  have hge23 : ¬ i < ps.length := by omega
  refine T.exit ?_
  refine T.s (T.rg ?_)
  refine TO.qm rfl (TO.qa rfl ?_)
  refine TO.nl (T.ret (Res.drop ?_))
  refine Res.one (.int .i64 ((most : Nat) : Int)) Tryd.results52 rfl ?_
  have hie : all.take i = all := List.take_of_length_le (by omega)
  rw [hie] at hRI
  exact ⟨[oI gb 76 [.int .i64 ((p.next.length : Nat) : Int), (.func (.func 77) #[] #[(.pointer (some ⟨gx, 0, none⟩))])], oI pb 25 (pC p k), oI fb 78 [(.func (.func 52) #[] #[(.pointer (some ⟨gb, 0, none⟩)), (.pointer (some ⟨pb, 0, none⟩)), (.pointer (some ⟨fb, 0, none⟩)), (.pointer (some ⟨ob, 0, none⟩))])], oI ob 23 [(.slice rb p.next.length rc)], oI gx 25 (pC p k), rowI rb rc 3 1 (nats o2), mapI KIn Value.bool m mm], (by exact Sub.k (.k (.k (.k (.pull [rowI rb rc 3 1 (nats o2), rowI ab ac 23 1 (vals ps)] _ (.k (.d (.d (.k .z))))))))), o2, most, rfl, rfl, hol2, hRI.done hpo hS h0⟩
end Go.Proofs.YtnikhiohindggaaDoor


namespace Go.Proofs.YtnikhiohindggaaDoor
open Go.Lx Go.RowKit _root_.Go.Proofs.Tryd
theorem parRd (w : World) [Tab Tryd.prog w] (p : Par) (k : DK) (h : AtP w p k) (hB : ParC p) :
    PureT Tryd.prog 25 [pV p k] w fun v N => ∃ k9 : DK, v = .tuple #[pV (rdV p) k9, .int .i64 (checkP p : Int)] ∧ N = [pI 23 3 (rdV p) k9] := by
  refine CallT.enter func25 rfl ntmps25 rfl ?_
  have hBn := hB.n; have hBf := hB.f
  refine T.s (T.rg ?_)
  refine TO.l rfl (l_box (v := (pV p k)) (cs := (pC p k)) rfl rfl (fun z1 => ?_))
  refine TO.l rfl (l_alloc inf25 rfl (fun z2 => ?_))
  refine TO.qa rfl ?_
  refine TO.nl (T.s (T.s (T.rg ?_)))
  refine TO.q (q_la 1 underlying25 rfl inf25 rfl rfl rfl) ?_
  have hk11 := fun (w1 : World) (hI : Inv w [oI z2 25 [(.int .i64 0), (.int .i64 0), (.slice none 0 0), (.slice none 0 0)], oI z1 25 (pC p k)] w1) => (haveI := Inv.tab (P := Tryd.prog) hI; parCheck w1 p k (hI.atQ h) hB)
  refine TO.l rfl (l_call ent20 (CallT.op hk11) rfl ?_)
  clear hk11
  rintro vr O' ⟨N, rfl, rfl, rfl⟩
  refine TO.qa rfl ?_
  refine TO.nl (T.s (T.rg ?_))
  refine TO.qm rfl (TO.q (q_neq rfl rfl) ?_)
  refine TO.nl ?_
  refine T.condP rfl (fun hc => ?_) (fun hc => ?_)
  · have hlt13 : checkP p ≠ 0 := by omega
    refine T.s ?_
    refine T.nilP 23 3 ?_
    refine T.rg ?_
    refine TO.q (q_build plan25 inf25 rfl) (TO.qm rfl ?_)
    refine TO.l rfl (l_sb (v := (.agg #[(.int .i64 0), (.int .i64 0), (.slice none 0 0), (.slice none 0 0)])) (vs := [(.int .i64 0), (.int .i64 0), (.slice none 0 0), (.slice none 0 0)]) 1 inf25 rfl rfl rfl rfl rfl rfl (by simp [putL]) ?_)
    refine TO.qa rfl ?_
    refine TO.nl (T.ret (Res.drop ?_))
    refine Res.cell1b (.int .i64 (checkP p : Int)) (i := 1) Tryd.results25 underlying25 rfl inf25 rfl rfl rfl rfl ?_
    rw [rdV_no (by omega)]
    exact ⟨[pI 23 3 noP k00], (by exact Sub.k .z), k00, rfl, rfl⟩
  have hge13 : ¬ checkP p ≠ 0 := by omega
  have he0 : checkP p = 0 := by omega
  have hv : ValidP p := checkP_zero.1 he0
  have hn4 := hv.n4
  refine T.skip (T.s (T.rg ?_))
  refine TO.q (q_fa underlying25 rfl inf22 rfl rfl) (TO.q (q_lb 1 underlying22 rfl rfl rfl rfl) (TO.q (q_len underlying22 rfl) ?_))
  refine TO.l rfl (l_makeSlice (m := p.next.length) underlying23 inf3 rfl rfl (by omega) (by omega) (fun z3 => ?_))
  refine TO.l rfl (l_alloc inf23 rfl (fun z4 => ?_))
  refine TO.l rfl (l_sb (v := (.slice (some ⟨z3, 0, none⟩) p.next.length p.next.length)) (vs := [(.slice (some ⟨z3, 0, none⟩) p.next.length p.next.length)]) 0 inf23 rfl rfl rfl rfl rfl rfl (by simp [putL]) ?_)
  refine TO.nl (T.s (T.rg ?_))
  refine TO.q (q_la 3 underlying25 rfl inf25 rfl rfl rfl) ?_
  have hk21 := fun (w1 : World) (hI : Inv w [oI z4 23 [(.slice (some ⟨z3, 0, none⟩) p.next.length p.next.length)], rowI (some ⟨z3, 0, none⟩) p.next.length 3 1 (List.replicate p.next.length (.int .i64 0)), oI z2 25 [(.int .i64 0), (.int .i64 0), (.slice none 0 0), (.slice none 0 0)], oI z1 25 (pC p k)] w1) => (haveI := Inv.tab (P := Tryd.prog) hI; ofC w1 p k)
  refine TO.l rfl (l_call ent51 (CallT.op hk21) rfl ?_)
  clear hk21
  rintro vr O' ⟨N, rfl, gx, rfl, rfl⟩
  refine TO.l rfl (l_alloc inf76 rfl (fun z5 => ?_))
  refine TO.l rfl (l_sb (v := (.agg #[.int .i64 ((p.next.length : Nat) : Int), (.func (.func 77) #[] #[(.pointer (some ⟨gx, 0, none⟩))])])) (vs := [.int .i64 ((p.next.length : Nat) : Int), (.func (.func 77) #[] #[(.pointer (some ⟨gx, 0, none⟩))])]) 0 inf76 rfl rfl rfl rfl rfl rfl (by simp [putL]) ?_)
  refine TO.nl (T.s (T.rg ?_))
  refine TO.l rfl (l_alloc inf78 rfl (fun z6 => ?_))
  refine TO.nl (T.s (T.rg ?_))
  refine TO.q (q_makeFunc) ?_
  refine TO.l rfl (l_sb (v := (.func (.func 52) #[] #[(.pointer (some ⟨z5, 0, none⟩)), (.pointer (some ⟨z1, 0, none⟩)), (.pointer (some ⟨z6, 0, none⟩)), (.pointer (some ⟨z4, 0, none⟩))])) (vs := [(.func (.func 52) #[] #[(.pointer (some ⟨z5, 0, none⟩)), (.pointer (some ⟨z1, 0, none⟩)), (.pointer (some ⟨z6, 0, none⟩)), (.pointer (some ⟨z4, 0, none⟩))])]) 0 inf78 rfl rfl rfl rfl rfl rfl (by simp [putL]) ?_)
  refine TO.nl (T.s (T.rg ?_))
  refine TO.l rfl (l_makeMap KIn Value.bool (fun mq7 => ?_))
  refine TO.qa rfl ?_
  refine TO.nl (T.s (T.s (T.rg ?_)))
  refine TO.q (q_fa underlying25 rfl inf22 rfl rfl) (TO.q (q_lb 7 underlying22 rfl rfl rfl rfl) (TO.q (q_len underlying22 rfl) (TO.qm rfl ?_)))
  refine TO.nl (T.block ?_)
  refine T.loopS (fun (s : Nat) ρ O => ∃ (mm : List (Int × Bool)), O = [mapI KIn Value.bool mq7 mm, oI z6 78 [(.func (.func 52) #[] #[(.pointer (some ⟨z5, 0, none⟩)), (.pointer (some ⟨z1, 0, none⟩)), (.pointer (some ⟨z6, 0, none⟩)), (.pointer (some ⟨z4, 0, none⟩))])], oI z5 76 [.int .i64 ((p.next.length : Nat) : Int), (.func (.func 77) #[] #[(.pointer (some ⟨gx, 0, none⟩))])], oI gx 25 (pC p k), oI z4 23 [(.slice (some ⟨z3, 0, none⟩) p.next.length p.next.length)], rowI (some ⟨z3, 0, none⟩) p.next.length 3 1 (List.replicate p.next.length (.int .i64 0)), oI z2 25 [(.int .i64 0), (.int .i64 0), (.slice none 0 0), (.slice none 0 0)], oI z1 25 (pC p k)] ∧ s ≤ p.next.length ∧ (∀ u, inM mm u = decide (u < s)) ∧ Heads [(0, (pV p k)), (1, (.pointer (some ⟨z1, 0, none⟩))), (2, (.pointer (some ⟨z2, 0, none⟩))), (3, .int .i64 0), (4, .int .i64 (checkP p : Int)), (5, (.pointer (some ⟨z4, 0, none⟩))), (6, (.pointer (some ⟨z5, 0, none⟩))), (7, (.pointer (some ⟨z6, 0, none⟩))), (8, (.map (some mq7))), (26, .int .i64 (p.next.length : Int)), (27, .int .i64 ((s : Nat) : Int))] ρ) (fun s => p.next.length - s) 0 ?_ ?_
  · exact ⟨[], rfl, Nat.zero_le _, (fun u => by simp [inM_nil]), ⟨rfl, rfl, rfl, rfl, rfl, rfl, rfl, rfl, rfl, rfl, rfl, trivial⟩⟩
  rintro s ρ O ⟨mm, rfl, hs, hmm, hH⟩
  obtain ⟨ρ0, rfl⟩ := hH.elim
  clear hH
  refine T.s (T.rg ?_)
  refine TO.q (q_lss rfl rfl) ?_
  refine TO.nl (T.s ?_)
  refine T.condP rfl (fun hc => ?_) (fun hc => ?_)
  · have hlt28 : s < p.next.length := by omega
    refine T.skip (T.s (T.block (T.s (T.rg ?_))))
    refine TO.qm rfl (TO.qa rfl ?_)
    refine TO.nl (T.rg ?_)
    refine TO.qm rfl (TO.qm rfl ?_)
    refine TO.l rfl (l_mapPutA (K := KIn) (V := Value.bool) (a := ((s : Nat) : Int)) (v := true) 0 underlying79 (KeyOk.int underlying3) (sbY _) rfl rfl rfl rfl ?_)
    refine TO.nl (T.rg ?_)
    refine TO.q (q_addN (a := s) (b := 1) rfl rfl (by omega)) (TO.qm rfl ?_)
    refine TO.nl ?_
    exact ⟨s + 1, by omega, [mapI KIn Value.bool mq7 (putA ((s : Nat) : Int) true mm), oI z6 78 [(.func (.func 52) #[] #[(.pointer (some ⟨z5, 0, none⟩)), (.pointer (some ⟨z1, 0, none⟩)), (.pointer (some ⟨z6, 0, none⟩)), (.pointer (some ⟨z4, 0, none⟩))])], oI z5 76 [.int .i64 ((p.next.length : Nat) : Int), (.func (.func 77) #[] #[(.pointer (some ⟨gx, 0, none⟩))])], oI gx 25 (pC p k), oI z4 23 [(.slice (some ⟨z3, 0, none⟩) p.next.length p.next.length)], rowI (some ⟨z3, 0, none⟩) p.next.length 3 1 (List.replicate p.next.length (.int .i64 0)), oI z2 25 [(.int .i64 0), (.int .i64 0), (.slice none 0 0), (.slice none 0 0)], oI z1 25 (pC p k)], (by exact Sub.rf), putA ((s : Nat) : Int) true mm, rfl, by omega, inM_lt hmm, ⟨rfl, rfl, rfl, rfl, rfl, rfl, rfl, rfl, rfl, rfl, rfl, trivial⟩⟩
  have hge28 : ¬ s < p.next.length := by omega
  refine T.exit ?_
  refine T.s ?_
  have hse : s = p.next.length := by omega
  have hS0 : ∀ u, inM mm u = true → u < p.next.length := fun u hu => by rw [hmm u] at hu; have := of_decide_eq_true hu; omega
  refine T.sub (O' := [mapI KIn Value.bool mq7 mm, oI z6 78 [(.func (.func 52) #[] #[(.pointer (some ⟨z5, 0, none⟩)), (.pointer (some ⟨z1, 0, none⟩)), (.pointer (some ⟨z6, 0, none⟩)), (.pointer (some ⟨z4, 0, none⟩))])], oI z5 76 [.int .i64 ((p.next.length : Nat) : Int), (.func (.func 77) #[] #[(.pointer (some ⟨gx, 0, none⟩))])], oI gx 25 (pC p k), oI z4 23 [(.slice (some ⟨z3, 0, none⟩) p.next.length p.next.length)], rowI (some ⟨z3, 0, none⟩) p.next.length 3 1 (nats (List.replicate p.next.length 0)), oI z2 25 [(.int .i64 0), (.int .i64 0), (.slice none 0 0), (.slice none 0 0)], oI z1 25 (pC p k)]) (by rw [zeros_nats]; exact Sub.rf) ?_
  refine T.rg ?_
  refine TO.q (q_lb 1 underlying78 rfl rfl rfl rfl) (TO.qm rfl ?_)
  have hk35 := CallV.under (A := [oI z5 76 [.int .i64 ((p.next.length : Nat) : Int), (.func (.func 77) #[] #[(.pointer (some ⟨gx, 0, none⟩))])], oI z1 25 (pC p k), oI z6 78 [(.func (.func 52) #[] #[(.pointer (some ⟨z5, 0, none⟩)), (.pointer (some ⟨z1, 0, none⟩)), (.pointer (some ⟨z6, 0, none⟩)), (.pointer (some ⟨z4, 0, none⟩))])], oI z4 23 [(.slice (some ⟨z3, 0, none⟩) p.next.length p.next.length)], oI gx 25 (pC p k), rowI (some ⟨z3, 0, none⟩) p.next.length 3 1 (nats (List.replicate p.next.length 0)), mapI KIn Value.bool mq7 mm]) (B := [oI z2 25 [(.int .i64 0), (.int .i64 0), (.slice none 0 0), (.slice none 0 0)]]) (O := [mapI KIn Value.bool mq7 mm, oI z6 78 [(.func (.func 52) #[] #[(.pointer (some ⟨z5, 0, none⟩)), (.pointer (some ⟨z1, 0, none⟩)), (.pointer (some ⟨z6, 0, none⟩)), (.pointer (some ⟨z4, 0, none⟩))])], oI z5 76 [.int .i64 ((p.next.length : Nat) : Int), (.func (.func 77) #[] #[(.pointer (some ⟨gx, 0, none⟩))])], oI gx 25 (pC p k), oI z4 23 [(.slice (some ⟨z3, 0, none⟩) p.next.length p.next.length)], rowI (some ⟨z3, 0, none⟩) p.next.length 3 1 (nats (List.replicate p.next.length 0)), oI z2 25 [(.int .i64 0), (.int .i64 0), (.slice none 0 0), (.slice none 0 0)], oI z1 25 (pC p k)]) (CallV.of_fn (first := []) (args := [(.map (some mq7))]) (caps := [(.pointer (some ⟨z5, 0, none⟩)), (.pointer (some ⟨z1, 0, none⟩)), (.pointer (some ⟨z6, 0, none⟩)), (.pointer (some ⟨z4, 0, none⟩))]) ent52 (reduceF w p k h hv z5 z1 z6 z4 gx (some ⟨z3, 0, none⟩) p.next.length _ mm mq7 (List.replicate p.next.length 0) rfl hS0 (by simp) (fun u _ => fn_zeros _ u))) (by exact Sub.pull [mapI KIn Value.bool mq7 mm, oI z6 78 [(.func (.func 52) #[] #[(.pointer (some ⟨z5, 0, none⟩)), (.pointer (some ⟨z1, 0, none⟩)), (.pointer (some ⟨z6, 0, none⟩)), (.pointer (some ⟨z4, 0, none⟩))])]] _ (.pull [mapI KIn Value.bool mq7 mm, oI z6 78 [(.func (.func 52) #[] #[(.pointer (some ⟨z5, 0, none⟩)), (.pointer (some ⟨z1, 0, none⟩)), (.pointer (some ⟨z6, 0, none⟩)), (.pointer (some ⟨z4, 0, none⟩))])], oI gx 25 (pC p k), oI z4 23 [(.slice (some ⟨z3, 0, none⟩) p.next.length p.next.length)], rowI (some ⟨z3, 0, none⟩) p.next.length 3 1 (nats (List.replicate p.next.length 0)), oI z2 25 [(.int .i64 0), (.int .i64 0), (.slice none 0 0), (.slice none 0 0)]] _ (.pull [mapI KIn Value.bool mq7 mm] _ (.pull [mapI KIn Value.bool mq7 mm, oI gx 25 (pC p k)] _ (.pull [mapI KIn Value.bool mq7 mm] _ (.pull [mapI KIn Value.bool mq7 mm] _ (.k (.k .z))))))))
  refine TO.l rfl (l_callG hk35 rfl rfl ?_)
  clear hk35
  rintro vr O' ⟨A1, rfl, o2, most, rfl, rfl, hol2, hrE⟩
  obtain ⟨M, hM⟩ : ∃ m, withP p (fun s => ((fn o2 s : Nat) : Int)) = m := ⟨_, rfl⟩
  have hro : rdV p = M := (rdV_of he0 (hrE.of (fun v => ⟨hS0 v, fun hv9 => by rw [hmm v]; exact decide_eq_true (by omega)⟩))).trans hM
  refine TO.nl (T.s (T.rg ?_))
  refine TO.q (q_la 1 underlying25 rfl inf25 rfl rfl rfl) (TO.q (q_makeFunc) ?_)
  have hk38 := CallT.under (A := [oI z4 23 [(.slice (some ⟨z3, 0, none⟩) p.next.length p.next.length)], rowI (some ⟨z3, 0, none⟩) p.next.length 3 1 (nats o2)]) (B := [oI z5 76 [.int .i64 ((p.next.length : Nat) : Int), (.func (.func 77) #[] #[(.pointer (some ⟨gx, 0, none⟩))])], oI z1 25 (pC p k), oI z6 78 [(.func (.func 52) #[] #[(.pointer (some ⟨z5, 0, none⟩)), (.pointer (some ⟨z1, 0, none⟩)), (.pointer (some ⟨z6, 0, none⟩)), (.pointer (some ⟨z4, 0, none⟩))])], oI gx 25 (pC p k), mapI KIn Value.bool mq7 mm, oI z2 25 [(.int .i64 0), (.int .i64 0), (.slice none 0 0), (.slice none 0 0)]]) (O := [oI z5 76 [.int .i64 ((p.next.length : Nat) : Int), (.func (.func 77) #[] #[(.pointer (some ⟨gx, 0, none⟩))])], oI z1 25 (pC p k), oI z6 78 [(.func (.func 52) #[] #[(.pointer (some ⟨z5, 0, none⟩)), (.pointer (some ⟨z1, 0, none⟩)), (.pointer (some ⟨z6, 0, none⟩)), (.pointer (some ⟨z4, 0, none⟩))])], oI z4 23 [(.slice (some ⟨z3, 0, none⟩) p.next.length p.next.length)], oI gx 25 (pC p k), rowI (some ⟨z3, 0, none⟩) p.next.length 3 1 (nats o2), mapI KIn Value.bool mq7 mm, oI z2 25 [(.int .i64 0), (.int .i64 0), (.slice none 0 0), (.slice none 0 0)]]) (show CallT _ _ _ _ _ _ from by
      have h9 := withK w p k h hv [oI z4 23 [(.slice (some ⟨z3, 0, none⟩) p.next.length p.next.length)], rowI (some ⟨z3, 0, none⟩) p.next.length 3 1 (nats o2)] (.func (.func 55) #[] #[(.pointer (some ⟨z4, 0, none⟩))]) (fun s => ((fn o2 s : Nat) : Int)) (fun s hs => CallV.of_fn (first := []) (args := [.int .i64 ((s : Nat) : Int)]) (caps := [(.pointer (some ⟨z4, 0, none⟩))]) ent55 (outF w p.next.length z4 (some ⟨z3, 0, none⟩) p.next.length o2 hol2 s hs))
      rw [hM] at h9
      exact h9) (by exact Sub.pull [oI z5 76 [.int .i64 ((p.next.length : Nat) : Int), (.func (.func 77) #[] #[(.pointer (some ⟨gx, 0, none⟩))])], oI z1 25 (pC p k), oI z6 78 [(.func (.func 52) #[] #[(.pointer (some ⟨z5, 0, none⟩)), (.pointer (some ⟨z1, 0, none⟩)), (.pointer (some ⟨z6, 0, none⟩)), (.pointer (some ⟨z4, 0, none⟩))])]] _ (.pull [oI z5 76 [.int .i64 ((p.next.length : Nat) : Int), (.func (.func 77) #[] #[(.pointer (some ⟨gx, 0, none⟩))])], oI z1 25 (pC p k), oI z6 78 [(.func (.func 52) #[] #[(.pointer (some ⟨z5, 0, none⟩)), (.pointer (some ⟨z1, 0, none⟩)), (.pointer (some ⟨z6, 0, none⟩)), (.pointer (some ⟨z4, 0, none⟩))])], oI gx 25 (pC p k)] _ (.k (.k (.k (.k (.k (.k .z))))))))
  refine TO.l rfl (l_call ent44 hk38 rfl ?_)
  clear hk38
  rintro vr O' ⟨A1, rfl, k1, rfl, rfl⟩
  refine TO.l rfl (l_sb (v := (pV M k1)) (vs := (pC M k1)) 8 inf25 rfl rfl rfl rfl rfl rfl (by simp [putL]) ?_)
  refine TO.qa rfl ?_
  refine TO.nl (T.ret (Res.drop ?_))
  refine Res.cell1b (.int .i64 0) (i := 8) Tryd.results25 underlying25 rfl inf25 rfl rfl rfl rfl ?_
  rw [hro, he0]
  exact ⟨[pI 23 3 M k1], (by exact Sub.k .z), k1, rfl, rfl⟩
theorem indexNo (w : World) [Tab Tryd.prog w] (b : Option Addr) (c : Nat) (l : List Nat) (h : Sl w b (nats l)) (hb : l.length < 1000000) (v : Nat) (hm : v ∉ l) :
    PureT Tryd.prog 80 [.slice b l.length c, .int .i64 ((v : Nat) : Int)] w fun r N => r = .int .i64 (-1) ∧ N = [] := by
  refine CallT.enter func80 rfl ntmps80 rfl ?_
  refine T.s (T.rg ?_)
  refine TO.qa rfl ?_
  refine TO.nl (T.s (T.s (T.rg ?_)))
  refine TO.qm rfl (TO.q (q_len underlying23 rfl) (TO.qm rfl ?_))
  refine TO.nl (T.block ?_)
  refine T.loop (fun (i : Nat) ρ O => O = [] ∧ i ≤ l.length ∧ Heads [(0, (.slice b l.length c)), (1, .int .i64 ((v : Nat) : Int)), (7, .int .i64 (l.length : Int)), (8, .int .i64 ((i : Nat) : Int))] ρ) (fun i => l.length - i) 0 ?_ ?_
  · exact ⟨rfl, Nat.zero_le _, ⟨rfl, rfl, rfl, rfl, trivial⟩⟩
  rintro i ρ O ⟨rfl, hi, hH⟩
  obtain ⟨ρ0, rfl⟩ := hH.elim
  clear hH
  refine T.s (T.rg ?_)
  refine TO.q (q_lss rfl rfl) ?_
  refine TO.nl (T.s ?_)
  refine T.condP rfl (fun hc => ?_) (fun hc => ?_)
  · have hlt9 : i < l.length := by omega
    have hil : i < l.length := by omega
    have hne : l[i] ≠ v := fun e => hm (e ▸ List.getElem_mem hil)
    refine T.skip (T.s (T.block (T.s (T.rg ?_))))
    refine TO.qm rfl (TO.qa rfl ?_)
    refine TO.nl (T.s (T.rg ?_))
    refine TO.qm rfl (TO.qm rfl (TO.qm rfl (TO.q (q_ix (i := i) underlying23 inf3 rfl rfl (Sl.o h)) ?_)))
    refine TO.q (q_ld underlying3 rfl rfl (Sl.o h) nats_get) (TO.q (q_eql rfl rfl) ?_)
    refine TO.nl ?_
    refine T.condP rfl (fun hc => ?_) (fun hc => ?_)
    · have hlt16 : v = l[i] := by omega
      refine T.s (T.rg ?_)
      refine TO.qm rfl (TO.qa rfl ?_)
      refine TO.nl (T.ret (Res.drop ?_))
      refine Res.one (.int .i64 ((i : Nat) : Int)) Tryd.results80 rfl ?_
      exact absurd (show l[i] = v by omega) hne
    have hge16 : ¬ v = l[i] := by omega
    refine T.skip (T.rg ?_)
    refine TO.q (q_addN (a := i) (b := 1) rfl rfl (by omega)) (TO.qm rfl ?_)
    refine TO.nl ?_
    exact ⟨i + 1, by omega, rfl, by omega, ⟨rfl, rfl, rfl, rfl, trivial⟩⟩
  have hge9 : ¬ i < l.length := by omega
  refine T.exit ?_
  refine T.s (T.rg ?_)
  refine TO.qa rfl ?_
  refine TO.nl (T.ret (Res.drop ?_))
  refine Res.one (.int .i64 (-1)) Tryd.results80 rfl ?_
  exact ⟨[], Sub.z, rfl, rfl⟩
theorem containsY (w : World) [Tab Tryd.prog w] (b : Option Addr) (c : Nat) (l : List Nat) (h : Sl w b (nats l)) (hb : l.length < 1000000) (v : Nat) (hm : v ∈ l) :
    PureT Tryd.prog 61 [.slice b l.length c, .int .i64 ((v : Nat) : Int)] w fun r N => r = .bool true ∧ N = [] := by
  refine CallT.enter func61 rfl ntmps61 rfl ?_
  refine T.s (T.rg ?_)
  refine TO.qa rfl ?_
  refine TO.nl (T.s (T.rg ?_))
  refine TO.qm rfl (TO.qm rfl ?_)
  have hk7 := fun (w1 : World) (hI : Inv w [] w1) => (haveI := Inv.tab (P := Tryd.prog) hI; indexN w1 b c l (hI.sl h) hb v hm)
  refine TO.l rfl (l_call ent80 (CallT.op hk7) rfl ?_)
  clear hk7
  rintro vr O' ⟨N, rfl, ⟨ix9, hix, hixe, hix0, rfl⟩, rfl⟩
  refine TO.q (q_geq rfl rfl) (TO.qa rfl ?_)
  refine TO.nl (T.ret (Res.drop ?_))
  refine Res.one (.bool (decide (((ix9 : Nat) : Int) ≥ 0))) Tryd.results61 rfl ?_
  exact ⟨[], Sub.z, congrArg Value.bool (by simp), rfl⟩
theorem containsN0 (w : World) [Tab Tryd.prog w] (b : Option Addr) (c : Nat) (l : List Nat) (h : Sl w b (nats l)) (hb : l.length < 1000000) (v : Nat) (hm : v ∉ l) :
    PureT Tryd.prog 61 [.slice b l.length c, .int .i64 ((v : Nat) : Int)] w fun r N => r = .bool false ∧ N = [] := by
  refine CallT.enter func61 rfl ntmps61 rfl ?_
  refine T.s (T.rg ?_)
  refine TO.qa rfl ?_
  refine TO.nl (T.s (T.rg ?_))
  refine TO.qm rfl (TO.qm rfl ?_)
  have hk7 := fun (w1 : World) (hI : Inv w [] w1) => (haveI := Inv.tab (P := Tryd.prog) hI; indexNo w1 b c l (hI.sl h) hb v hm)
  refine TO.l rfl (l_call ent80 (CallT.op hk7) rfl ?_)
  clear hk7
  rintro vr O' ⟨N, rfl, rfl, rfl⟩
  refine TO.q (q_geq rfl rfl) (TO.qa rfl ?_)
  refine TO.nl (T.ret (Res.drop ?_))
  refine Res.one (.bool (decide ((-1) ≥ 0))) Tryd.results61 rfl ?_
  exact ⟨[], Sub.z, congrArg Value.bool (by simp), rfl⟩
theorem containsN (w : World) [Tab Tryd.prog w] [Tab Tryd.prog w] (b : Option Addr) (c : Nat) (l : List Nat) (h : Sl w b (nats l)) (hb : l.length < 1000000) (v : Nat) :
    PureT Tryd.prog 61 [.slice b l.length c, .int .i64 ((v : Nat) : Int)] w fun r N => r = .bool (decide (v ∈ l)) ∧ N = [] := by
  by_cases hm : v ∈ l
  · rw [decide_eq_true hm]; exact containsY w b c l h hb v hm
  · rw [decide_eq_false hm]; exact containsN0 w b c l h hb v hm
theorem anyF (base : World) [Tab Tryd.prog base] (u : Nat) : CallT Tryd.prog base 84 [.int .i64 ((u : Nat) : Int)] [] (fun v O' => v = .bool (decide ((fun _ : Nat => true) u = true)) ∧ O' = []) := by
  refine CallT.enter func84 rfl ntmps84 rfl ?_
  refine T.s (T.rg ?_)
  refine TO.qa rfl ?_
  refine TO.nl (T.s (T.rg ?_))
  refine TO.qa rfl ?_
  refine TO.nl (T.ret ?_)
  refine Res.one (.bool true) Tryd.results84 rfl ?_
  exact ⟨rfl, rfl⟩
theorem eqF4 (base : World) [Tab Tryd.prog base] (sb s u : Nat) : CallT Tryd.prog base 88 [.int .i64 ((u : Nat) : Int), (.pointer (some ⟨sb, 0, none⟩))] [oI sb 3 [.int .i64 ((s : Nat) : Int)]] (fun v O' => v = .bool (decide ((fun u : Nat => decide (u = s)) u = true)) ∧ O' = [oI sb 3 [.int .i64 ((s : Nat) : Int)]]) := by
  refine CallT.enter func88 rfl ntmps88 rfl ?_
  refine T.s (T.rg ?_)
  refine TO.qa rfl ?_
  refine TO.nl (T.s (T.rg ?_))
  refine TO.qm rfl (TO.q (q_lb 0 underlying3 rfl rfl rfl rfl) (TO.q (q_eql rfl rfl) (TO.qa rfl ?_)))
  refine TO.nl (T.ret ?_)
  refine Res.one (.bool (decide (((u : Nat) : Int) = ((s : Nat) : Int)))) Tryd.results88 rfl ?_
  exact ⟨congrArg Value.bool (decide_eq_decide.2 (by simp only [decide_eq_true_eq]; omega)), rfl⟩
theorem eqF5 (base : World) [Tab Tryd.prog base] (sb s u : Nat) : CallT Tryd.prog base 89 [.int .i64 ((u : Nat) : Int), (.pointer (some ⟨sb, 0, none⟩))] [oI sb 3 [.int .i64 ((s : Nat) : Int)]] (fun v O' => v = .bool (decide ((fun u : Nat => decide (u = s)) u = true)) ∧ O' = [oI sb 3 [.int .i64 ((s : Nat) : Int)]]) := by
  refine CallT.enter func89 rfl ntmps89 rfl ?_
  refine T.s (T.rg ?_)
  refine TO.qa rfl ?_
  refine TO.nl (T.s (T.rg ?_))
  refine TO.qm rfl (TO.q (q_lb 0 underlying3 rfl rfl rfl rfl) (TO.q (q_eql rfl rfl) (TO.qa rfl ?_)))
  refine TO.nl (T.ret ?_)
  refine Res.one (.bool (decide (((u : Nat) : Int) = ((s : Nat) : Int)))) Tryd.results89 rfl ?_
  exact ⟨congrArg Value.bool (decide_eq_decide.2 (by simp only [decide_eq_true_eq]; omega)), rfl⟩
theorem inF (base : World) [Tab Tryd.prog base] (pb : Nat) (b : Option Addr) (c : Nat) (l : List Nat) (hb : l.length < 1000000) (OO : List Lx.Item) (hS : ∀ w, Inv base ([oI pb 23 [(.slice b l.length c)]] ++ OO) w → Sl w b (nats l)) (u : Nat) :
    CallT Tryd.prog base 86 [.int .i64 ((u : Nat) : Int), (.pointer (some ⟨pb, 0, none⟩))] ([oI pb 23 [(.slice b l.length c)]] ++ OO) (fun v O' => v = .bool (decide ((fun u : Nat => decide (u ∈ l)) u = true)) ∧ O' = [oI pb 23 [(.slice b l.length c)]] ++ OO) := by
  refine CallT.enter func86 rfl ntmps86 rfl ?_
  refine T.s (T.rg ?_)
  refine TO.qa rfl ?_
  refine TO.nl (T.s (T.rg ?_))
  refine TO.q (q_lb 0 underlying23 rfl rfl rfl rfl) (TO.qm rfl ?_)
  have hk6 := fun (w1 : World) (hI : Inv base ([oI pb 23 [(.slice b l.length c)]] ++ OO) w1) => (haveI := Inv.tab (P := Tryd.prog) hI; containsN w1 b c l (hS w1 hI) hb u)
  refine TO.l rfl (l_call ent61 (CallT.op hk6) rfl ?_)
  clear hk6
  rintro vr O' ⟨N, rfl, rfl, rfl⟩
  refine TO.qa rfl ?_
  refine TO.nl (T.ret ?_)
  refine Res.one (.bool (decide (u ∈ l))) Tryd.results86 rfl ?_
  exact ⟨congrArg Value.bool (decide_eq_decide.2 (by simp only [decide_eq_true_eq])), rfl⟩
theorem insF (base : World) [Tab Tryd.prog base] (mb m ab : Nat) (ks : List Nat) (fal : Value) (al : Nat → Bool) (OO : List Lx.Item) (u : Nat) (hal : CallV Tryd.prog base fal [.int .i64 ((u : Nat) : Int)] OO (fun v O' => v = .bool (decide (al u = true)) ∧ O' = OO)) :
    CallT Tryd.prog base 85 [.int .i64 ((u : Nat) : Int), (.pointer (some ⟨mb, 0, none⟩)), (.pointer (some ⟨ab, 0, none⟩))] ([oI mb 79 [(.map (some m))], mapI KIn Value.bool m (rchM ks), oI ab 69 [fal]] ++ OO) (fun v O' => v = .bool (decide ((decide (u ∈ ks) && al u) = true)) ∧ O' = [oI mb 79 [(.map (some m))], mapI KIn Value.bool m (rchM ks), oI ab 69 [fal]] ++ OO) := by
  refine CallT.enter func85 rfl ntmps85 rfl ?_
  refine T.s (T.rg ?_)
  refine TO.qa rfl ?_
  refine TO.nl (T.s (T.rg ?_))
  refine TO.q (q_lb 0 underlying79 rfl rfl rfl rfl) (TO.qm rfl (TO.q (QT.cast (q_lookup (K := KIn) (V := Value.bool) (a := ((u : Nat) : Int)) underlying79 inf4 (KeyOk.int underlying3) rfl rfl (mG 1 rfl)) (v' := .bool (decide (u ∈ ks))) (by rw [← rchM_at ks u]; cases lookL ((u : Nat) : Int) (rchM ks) with | none => rfl | some b => cases b <;> rfl)) ?_))
  by_cases h8 : u ∈ ks
  · refine TO.q (QT.toB (q_move rfl) (decide_eq_true h8)) ?_
    refine TO.gd rfl rfl rfl (LT.oq rfl rfl (q_lb 2 underlying69 rfl rfl rfl rfl) ?_)
    refine TO.gd rfl rfl rfl (LT.oq rfl rfl (q_move rfl) ?_)
    have hk11 := CallV.keepR [oI mb 79 [(.map (some m))], mapI KIn Value.bool m (rchM ks), oI ab 69 [fal]] hal
    refine TO.gd rfl rfl rfl (l_callG hk11 rfl rfl ?_)
    clear hk11
    rintro vr O' ⟨rfl, rfl⟩
    refine TO.q (q_pick1 rfl rfl) (TO.qa rfl ?_)
    refine TO.nl (T.ret ?_)
    refine Res.one (.bool (decide (al u = true))) Tryd.results85 rfl ?_
    exact ⟨congrArg Value.bool (decide_eq_decide.2 (by simp [h8])), rfl⟩
  refine TO.q (QT.toB (q_move rfl) (decide_eq_false h8)) ?_
  refine TO.pd rfl rfl ?_
  refine TO.pd rfl rfl ?_
  refine TO.pd rfl rfl ?_
  refine TO.q (q_pick0 rfl rfl) (TO.qa rfl ?_)
  refine TO.nl (T.ret ?_)
  refine Res.one (.bool false) Tryd.results85 rfl ?_
  exact ⟨congrArg Value.bool (show false = _ by simp [h8]), rfl⟩
end Go.Proofs.YtnikhiohindggaaDoor


/- Contracts of functions of the program (Zb, Zc, Zf, Yw, Zd, Zg): what each call answers and that it leaves memory as it was. Conditions: those each theorem names. -/
import Derived.Test.YtnikhiohindggaaDoorCoreL
import Derived.Test.YtnikhiohindggaaDoorYs
import Derived.Test.YtnikhiohindggaaDoorZa
import Derived.Test.YtnikhiohindggaaDoorYm
set_option linter.unusedSectionVars false
set_option linter.unusedSimpArgs false
set_option linter.unusedVariables false
set_option linter.unnecessarySimpa false
set_option maxHeartbeats 8000000
set_option maxRecDepth 20000
namespace Go.Proofs.YtnikhiohindggaaDoor
open Go.Lx Go.RowKit _root_.Go.Proofs.Tryd
abbrev carO (p : Par) (k : DK) (xc xi xl xs xg xa xv xd xo gx : Nat) (ib lb db : Option Addr) (ic lc dc : Nat) (fal : Value) (s : CL) (sb : Option Addr) (sc : Nat) (ab : Option Addr) (ac : Nat) (ps : List Rec) : List Lx.Item := [oI xc 3 [(vI ((s.clk : Nat) : Int))], oI xi 23 [(.slice ib p.next.length ic)], oI xl 23 [(.slice lb p.next.length lc)], oI xs 23 [(.slice sb s.stk.length sc)], oI xg 76 [(vI ((p.next.length : Nat) : Int)), (.func (.func 77) #[] #[(.pointer (aD gx))])], oI xa 69 [fal], oI xv 103 [(.func (.func 79) #[] #[(.pointer (aD xc)), (.pointer (aD xi)), (.pointer (aD xl)), (.pointer (aD xs)), (.pointer (aD xg)), (.pointer (aD xa)), (.pointer (aD xv)), (.pointer (aD xd)), (.pointer (aD xo))])], oI xd 81 [(.slice db p.next.length dc)], oI xo 22 [(.slice ab ps.length ac)], oI gx 25 (pC p k), rowI ib ic 3 1 (nats s.idx), rowI lb lc 3 1 (nats s.low), rowI sb sc 3 1 (nats s.stk), rowI db dc 4 1 (bools s.dn), rowI ab ac 23 1 (vals ps)]
theorem visitF (base : World) [Tab Tryd.prog base] (p : Par) (k : DK) (h : AtP base p k) (hv : Val p.d) (hn : p.next.length ≤ 4096) (hw : letN p.d ≤ 64) (OO : List Lx.Item) (al : Nat → Bool) (xc xi xl xs xg xa xv xd xo gx : Nat) (ib lb db : Option Addr) (ic lc dc : Nat) (fal : Value) (hal : ∀ u, u < p.next.length → CallV Tryd.prog base fal [vI ((u : Nat) : Int)] OO (fun v O' => v = .bool (decide (al u = true)) ∧ O' = OO)) :
  ∀ (m : Nat) (s : CL) (sb : Option Addr) (sc : Nat) (ab : Option Addr) (ac : Nat) (ps : List Rec) (gray : List Nat) (v : Nat) (hm : s.idx.count 0 = m) (hps : nums ps = s.all.map intY) (hok : CLok p.d al s) (h0 : TInv p.next.length (EA p.d al) gray s.ts) (hvn : v < p.next.length) (hv0 : s.idx[v]'(by rw [hok.li]; exact hvn) = 0) (hav : al v = true) (hg : ∀ g ∈ gray, Rch (EA p.d al) g v),
  CallT Tryd.prog base 79 [vI ((v : Nat) : Int), (.pointer (aD xc)), (.pointer (aD xi)), (.pointer (aD xl)), (.pointer (aD xs)), (.pointer (aD xg)), (.pointer (aD xa)), (.pointer (aD xv)), (.pointer (aD xd)), (.pointer (aD xo))] (carO p k xc xi xl xs xg xa xv xd xo gx ib lb db ic lc dc fal s sb sc ab ac ps ++ (itms 3 ps ++ OO)) (fun _ O' => ∃ s' sb' sc' ab' ac' ps' t, O' = carO p k xc xi xl xs xg xa xv xd xo gx ib lb db ic lc dc fal s' sb' sc' ab' ac' ps' ++ (itms 3 ps' ++ OO) ∧ nums ps' = s'.all.map intY ∧ CDone p.d al gray s v s' t) := by
 intro m
 induction m using Nat.strongRecOn with
 | _ m ih => ?_
 intro s sb sc ab ac ps gray v hm hps hok h0 hvn hv0 hav hg
 refine CallT.enter func79 rfl ntmps79 rfl ?_
 have hli := hok.li; have hll := hok.ll; have hld := hok.ld; have hck := hok.ck; have hsk := hok.sk
 have hvl := h.rows.1
 have hdl : p.d.next.length = p.next.length := rfl
 obtain ⟨v1, c1, g1, s1⟩ := h.rows.get hvn
 have hrl : p.next[v].length = letN p.d := hv.len _ (List.getElem_mem hvn)
 refine T.s (T.rg (TO.l rfl (l_box (v := vI ((v : Nat) : Int)) (cs := [(vI ((v : Nat) : Int))]) rfl rfl (fun z1 => ?_))))
 refine TO.nl (T.s (T.rg (TO.q (q_lb 1 underlying3 rfl rfl rfl rfl) (TO.q (q_addN (a := s.clk) (b := 1) rfl rfl (by omega)) (TO.l rfl (l_sb (v := vI ((s.clk + 1 : Nat) : Int)) (vs := [(vI ((s.clk + 1 : Nat) : Int))]) 1 inf3 rfl rfl rfl rfl rfl rfl (by simp [putL]) ?_))))))
 refine TO.nl (T.s ?_)
 refine T.sub (O' := [oI z1 3 [(vI ((v : Nat) : Int))], oI xc 3 [(vI ((s.clk + 1 : Nat) : Int))], oI xi 23 [(.slice ib p.next.length ic)], oI xl 23 [(.slice lb p.next.length lc)], oI xs 23 [(.slice sb s.stk.length sc)], oI xg 76 [(vI ((p.next.length : Nat) : Int)), (.func (.func 77) #[] #[(.pointer (aD gx))])], oI xa 69 [fal], oI xv 103 [(.func (.func 79) #[] #[(.pointer (aD xc)), (.pointer (aD xi)), (.pointer (aD xl)), (.pointer (aD xs)), (.pointer (aD xg)), (.pointer (aD xa)), (.pointer (aD xv)), (.pointer (aD xd)), (.pointer (aD xo))])], oI xd 81 [(.slice db p.next.length dc)], oI xo 22 [(.slice ab ps.length ac)], oI gx 25 (pC p k), rowI ib ic 3 1 (nats s.idx), rowI lb lc 3 1 (nats s.low), rowI sb sc 3 1 (nats s.stk), rowI db dc 4 1 (bools s.dn), rowI ab ac 23 1 (vals ps)] ++ (itms 3 ps ++ OO)) Sub.rf ?_
 refine T.draws2 [oI z1 3 [(vI ((v : Nat) : Int))], oI xc 3 [(vI ((s.clk + 1 : Nat) : Int))], oI xi 23 [(.slice ib p.next.length ic)], oI xl 23 [(.slice lb p.next.length lc)], oI xs 23 [(.slice sb s.stk.length sc)], oI xg 76 [(vI ((p.next.length : Nat) : Int)), (.func (.func 77) #[] #[(.pointer (aD gx))])], oI xa 69 [fal], oI xv 103 [(.func (.func 79) #[] #[(.pointer (aD xc)), (.pointer (aD xi)), (.pointer (aD xl)), (.pointer (aD xs)), (.pointer (aD xg)), (.pointer (aD xa)), (.pointer (aD xv)), (.pointer (aD xd)), (.pointer (aD xo))])], oI xd 81 [(.slice db p.next.length dc)], oI xo 22 [(.slice ab ps.length ac)], oI gx 25 (pC p k), rowI lb lc 3 1 (nats s.low), rowI sb sc 3 1 (nats s.stk), rowI db dc 4 1 (bools s.dn), rowI ab ac 23 1 (vals ps)] [oI z1 3 [(vI ((v : Nat) : Int))], oI xc 3 [(vI ((s.clk + 1 : Nat) : Int))], oI xi 23 [(.slice ib p.next.length ic)], oI xl 23 [(.slice lb p.next.length lc)], oI xs 23 [(.slice sb s.stk.length sc)], oI xg 76 [(vI ((p.next.length : Nat) : Int)), (.func (.func 77) #[] #[(.pointer (aD gx))])], oI xa 69 [fal], oI xv 103 [(.func (.func 79) #[] #[(.pointer (aD xc)), (.pointer (aD xi)), (.pointer (aD xl)), (.pointer (aD xs)), (.pointer (aD xg)), (.pointer (aD xa)), (.pointer (aD xv)), (.pointer (aD xd)), (.pointer (aD xo))])], oI xd 81 [(.slice db p.next.length dc)], oI xo 22 [(.slice ab ps.length ac)], oI gx 25 (pC p k), rowI ib ic 3 1 (nats s.idx), rowI lb lc 3 1 (nats s.low), rowI sb sc 3 1 (nats s.stk), rowI db dc 4 1 (bools s.dn), rowI ab ac 23 1 (vals ps)] [(0, 0), (1, 0), (2, 0), (3, 0), (4, 0), (5, 0), (6, 3), (7, 4), (8, 0), (9, 2)] mixed (by kernel_rfl) (by exact Sub.k (.k (.k (.k (.k (.k (.k (.k (.k (.k (.k (.d (.k (.k (.k (.k .z)))))))))))))))) (by exact Sub.k (.k (.k (.k (.k (.k (.k (.k (.k (.k (.k (.k (.k (.k (.k (.k .z)))))))))))))))) (fun _ _ _ h => h) ?_
 refine DO.q rfl (q_lb 2 underlying23 rfl rfl rfl rfl) (DO.q rfl (q_lb 0 underlying3 rfl rfl rfl rfl) (DO.q rfl (q_lb 3 underlying23 rfl rfl rfl rfl) (DO.q rfl (q_lb 0 underlying3 rfl rfl rfl rfl) (DO.q rfl (q_lb 1 underlying3 rfl rfl rfl rfl) (DO.q rfl (q_lb 1 underlying3 rfl rfl rfl rfl) ?_)))))
 refine DO.quiet2 rfl (q_ix (i := v) underlying23 inf3 rfl rfl (rowO (mG 11 rfl))) ?_
 refine DO.last2 rfl rfl (l_st (j := v) (v := (vI ((s.clk + 1 : Nat) : Int))) (vs := [(vI ((s.clk + 1 : Nat) : Int))]) (cs := nats s.idx) 11 inf3 rfl rfl rfl rfl rfl (by simp) rfl (by first | (simp; omega) | (simp_all; omega)) ⟨by exact Sub.k (.k (.k (.k (.k (.k (.k (.k (.k (.k (.k (.d (.k (.k (.k (.k .z))))))))))))))), ?_⟩)
 refine DO.sub (O' := ([oI z1 3 [(vI ((v : Nat) : Int))], oI xc 3 [(vI ((s.clk + 1 : Nat) : Int))], oI xi 23 [(.slice ib p.next.length ic)], oI xl 23 [(.slice lb p.next.length lc)], oI xs 23 [(.slice sb s.stk.length sc)], oI xg 76 [(vI ((p.next.length : Nat) : Int)), (.func (.func 77) #[] #[(.pointer (aD gx))])], oI xa 69 [fal], oI xv 103 [(.func (.func 79) #[] #[(.pointer (aD xc)), (.pointer (aD xi)), (.pointer (aD xl)), (.pointer (aD xs)), (.pointer (aD xg)), (.pointer (aD xa)), (.pointer (aD xv)), (.pointer (aD xd)), (.pointer (aD xo))])], oI xd 81 [(.slice db p.next.length dc)], oI xo 22 [(.slice ab ps.length ac)], oI gx 25 (pC p k), rowI ib ic 3 1 (nats (s.idx.set v (s.clk + 1))), rowI lb lc 3 1 (nats s.low), rowI sb sc 3 1 (nats s.stk), rowI db dc 4 1 (bools s.dn), rowI ab ac 23 1 (vals ps)] ++ (itms 3 ps ++ OO))) (by rw [show putL (nats s.idx) v [(vI ((s.clk + 1 : Nat) : Int))] = nats (s.idx.set v (s.clk + 1)) from (by simp [putL])]; exact Sub.of (List.Sublist.refl _)) ?_
 refine DO.q rfl (q_ix (i := v) underlying23 inf3 rfl rfl (rowO (mG 11 rfl))) ?_
 refine DO.last rfl rfl (l_st (j := v) (v := (vI ((s.clk + 1 : Nat) : Int))) (vs := [(vI ((s.clk + 1 : Nat) : Int))]) (cs := nats s.low) 12 inf3 rfl rfl rfl rfl rfl (by simp) rfl (by first | (simp; omega) | (simp_all; omega)) ?_)
 refine DO.sub (O' := ([oI z1 3 [(vI ((v : Nat) : Int))], oI xc 3 [(vI ((s.clk + 1 : Nat) : Int))], oI xi 23 [(.slice ib p.next.length ic)], oI xl 23 [(.slice lb p.next.length lc)], oI xs 23 [(.slice sb s.stk.length sc)], oI xg 76 [(vI ((p.next.length : Nat) : Int)), (.func (.func 77) #[] #[(.pointer (aD gx))])], oI xa 69 [fal], oI xv 103 [(.func (.func 79) #[] #[(.pointer (aD xc)), (.pointer (aD xi)), (.pointer (aD xl)), (.pointer (aD xs)), (.pointer (aD xg)), (.pointer (aD xa)), (.pointer (aD xv)), (.pointer (aD xd)), (.pointer (aD xo))])], oI xd 81 [(.slice db p.next.length dc)], oI xo 22 [(.slice ab ps.length ac)], oI gx 25 (pC p k), rowI ib ic 3 1 (nats (s.idx.set v (s.clk + 1))), rowI lb lc 3 1 (nats (s.low.set v (s.clk + 1))), rowI sb sc 3 1 (nats s.stk), rowI db dc 4 1 (bools s.dn), rowI ab ac 23 1 (vals ps)] ++ (itms 3 ps ++ OO))) (by rw [show putL (nats s.low) v [(vI ((s.clk + 1 : Nat) : Int))] = nats (s.low.set v (s.clk + 1)) from (by simp [putL])]; exact Sub.of (List.Sublist.refl _)) ?_
 refine DO.done ?_
 refine T.s (T.rg (TO.q (q_lb 4 underlying23 rfl rfl rfl rfl) (TO.q (q_lb 0 underlying3 rfl rfl rfl rfl) (TO.l rfl (l_build1 (v := (vI ((v : Nat) : Int))) underlying23 inf3 rfl rfl rfl (fun z2 => ?_))))))
 refine TO.l rfl (l_append 14 underlying23 underlying23 inf3 rfl rfl rfl rfl (by simp) (by decide) (Src.row (j := 0) rfl (by simp)) (by simp [oneB]) (by omega) (by decide) (by decide) (fun z3 zc4 => ?_))
 refine TO.l rfl (l_sb (v := (.slice z3 (s.stk.length + 1) zc4)) (vs := [(.slice z3 (s.stk.length + 1) zc4)]) 5 inf23 rfl rfl rfl rfl rfl rfl (by simp [putL]) ?_)
 refine TO.nl (T.s (T.rg (TO.l rfl (l_alloc inf4 rfl (fun z5 => ?_)))))
 refine TO.l rfl (l_sb (v := .bool false) (vs := [(.bool false)]) 0 inf4 rfl rfl rfl rfl rfl rfl (by simp [putL]) ?_)
 refine TO.nl (T.s (T.s ?_))
 refine T.sub (O' := [oI z5 4 [(.bool false)], rowI (aD z2) 1 3 1 [(vI ((v : Nat) : Int))], oI z1 3 [(vI ((v : Nat) : Int))], oI xc 3 [(vI ((s.clk + 1 : Nat) : Int))], oI xi 23 [(.slice ib p.next.length ic)], oI xl 23 [(.slice lb p.next.length lc)], oI xs 23 [(.slice z3 (s.stk.length + 1) zc4)], oI xg 76 [(vI ((p.next.length : Nat) : Int)), (.func (.func 77) #[] #[(.pointer (aD gx))])], oI xa 69 [fal], oI xv 103 [(.func (.func 79) #[] #[(.pointer (aD xc)), (.pointer (aD xi)), (.pointer (aD xl)), (.pointer (aD xs)), (.pointer (aD xg)), (.pointer (aD xa)), (.pointer (aD xv)), (.pointer (aD xd)), (.pointer (aD xo))])], oI xd 81 [(.slice db p.next.length dc)], oI xo 22 [(.slice ab ps.length ac)], oI gx 25 (pC p k), rowI ib ic 3 1 (nats (s.idx.set v (s.clk + 1))), rowI lb lc 3 1 (nats (s.low.set v (s.clk + 1))), rowI z3 zc4 3 1 ((nats s.stk) ++ [(vI ((v : Nat) : Int))]), rowI db dc 4 1 (bools s.dn), rowI ab ac 23 1 (vals ps)] ++ (itms 3 ps ++ OO)) Sub.rf ?_
 refine T.rg (TO.q (q_fa underlying76 rfl inf74 rfl rfl) (TO.q (q_lb 7 underlying74 rfl rfl rfl rfl) (TO.q (q_lb 2 underlying3 rfl rfl rfl rfl) ?_)))
 have hk34 := CallV.under (A := [oI gx 25 (pC p k)]) (B := [oI z5 4 [(.bool false)], rowI (aD z2) 1 3 1 [(vI ((v : Nat) : Int))], oI z1 3 [(vI ((v : Nat) : Int))], oI xc 3 [(vI ((s.clk + 1 : Nat) : Int))], oI xi 23 [(.slice ib p.next.length ic)], oI xl 23 [(.slice lb p.next.length lc)], oI xs 23 [(.slice z3 (s.stk.length + 1) zc4)], oI xg 76 [(vI ((p.next.length : Nat) : Int)), (.func (.func 77) #[] #[(.pointer (aD gx))])], oI xa 69 [fal], oI xv 103 [(.func (.func 79) #[] #[(.pointer (aD xc)), (.pointer (aD xi)), (.pointer (aD xl)), (.pointer (aD xs)), (.pointer (aD xg)), (.pointer (aD xa)), (.pointer (aD xv)), (.pointer (aD xd)), (.pointer (aD xo))])], oI xd 81 [(.slice db p.next.length dc)], oI xo 22 [(.slice ab ps.length ac)], rowI ib ic 3 1 (nats (s.idx.set v (s.clk + 1))), rowI lb lc 3 1 (nats (s.low.set v (s.clk + 1))), rowI z3 zc4 3 1 ((nats s.stk) ++ [(vI ((v : Nat) : Int))]), rowI db dc 4 1 (bools s.dn), rowI ab ac 23 1 (vals ps)] ++ (itms 3 ps ++ OO)) (O := ([oI z5 4 [(.bool false)], rowI (aD z2) 1 3 1 [(vI ((v : Nat) : Int))], oI z1 3 [(vI ((v : Nat) : Int))], oI xc 3 [(vI ((s.clk + 1 : Nat) : Int))], oI xi 23 [(.slice ib p.next.length ic)], oI xl 23 [(.slice lb p.next.length lc)], oI xs 23 [(.slice z3 (s.stk.length + 1) zc4)], oI xg 76 [(vI ((p.next.length : Nat) : Int)), (.func (.func 77) #[] #[(.pointer (aD gx))])], oI xa 69 [fal], oI xv 103 [(.func (.func 79) #[] #[(.pointer (aD xc)), (.pointer (aD xi)), (.pointer (aD xl)), (.pointer (aD xs)), (.pointer (aD xg)), (.pointer (aD xa)), (.pointer (aD xv)), (.pointer (aD xd)), (.pointer (aD xo))])], oI xd 81 [(.slice db p.next.length dc)], oI xo 22 [(.slice ab ps.length ac)], oI gx 25 (pC p k), rowI ib ic 3 1 (nats (s.idx.set v (s.clk + 1))), rowI lb lc 3 1 (nats (s.low.set v (s.clk + 1))), rowI z3 zc4 3 1 ((nats s.stk) ++ [(vI ((v : Nat) : Int))]), rowI db dc 4 1 (bools s.dn), rowI ab ac 23 1 (vals ps)] ++ (itms 3 ps ++ OO))) (CallV.of_fn (first := []) (args := [vI ((v : Nat) : Int)]) (caps := [(.pointer (aD gx))]) ent77 (nextF base p k h gx v hvn v1 c1 g1)) (by exact Sub.pull [oI z5 4 [(.bool false)], rowI (aD z2) 1 3 1 [(vI ((v : Nat) : Int))], oI z1 3 [(vI ((v : Nat) : Int))], oI xc 3 [(vI ((s.clk + 1 : Nat) : Int))], oI xi 23 [(.slice ib p.next.length ic)], oI xl 23 [(.slice lb p.next.length lc)], oI xs 23 [(.slice z3 (s.stk.length + 1) zc4)], oI xg 76 [(vI ((p.next.length : Nat) : Int)), (.func (.func 77) #[] #[(.pointer (aD gx))])], oI xa 69 [fal], oI xv 103 [(.func (.func 79) #[] #[(.pointer (aD xc)), (.pointer (aD xi)), (.pointer (aD xl)), (.pointer (aD xs)), (.pointer (aD xg)), (.pointer (aD xa)), (.pointer (aD xv)), (.pointer (aD xd)), (.pointer (aD xo))])], oI xd 81 [(.slice db p.next.length dc)], oI xo 22 [(.slice ab ps.length ac)]] _ (.k (.k (.k (.k (.k (.k (.k (.k (.k (.k (.k (.k (.k (.k (.k (.k (.k .rf))))))))))))))))))
 refine TO.l rfl (l_callG hk34 rfl rfl ?_)
 clear hk34
 rintro vr O' ⟨A1, rfl, yb, rfl, rfl⟩
 refine TO.nl (T.block ?_)
 refine T.sub (O' := [oI yb 23 [(.slice v1 p.next[v].length c1)], oI z1 3 [(vI ((v : Nat) : Int))], oI z5 4 [(.bool false)], oI xc 3 [(vI ((s.clk + 1 : Nat) : Int))], oI xi 23 [(.slice ib p.next.length ic)], oI xl 23 [(.slice lb p.next.length lc)], oI xs 23 [(.slice z3 ((s.stk ++ [v]).length) zc4)], oI xg 76 [(vI ((p.next.length : Nat) : Int)), (.func (.func 77) #[] #[(.pointer (aD gx))])], oI xa 69 [fal], oI xv 103 [(.func (.func 79) #[] #[(.pointer (aD xc)), (.pointer (aD xi)), (.pointer (aD xl)), (.pointer (aD xs)), (.pointer (aD xg)), (.pointer (aD xa)), (.pointer (aD xv)), (.pointer (aD xd)), (.pointer (aD xo))])], oI xd 81 [(.slice db p.next.length dc)], oI xo 22 [(.slice ab ps.length ac)], oI gx 25 (pC p k), rowI ib ic 3 1 (nats (s.idx.set v (s.clk + 1))), rowI lb lc 3 1 (nats (s.low.set v (s.clk + 1))), rowI z3 zc4 3 1 (nats (s.stk ++ [v])), rowI db dc 4 1 (bools s.dn), rowI ab ac 23 1 (vals ps)] ++ (itms 3 ps ++ OO)) (by rw [show nats (s.stk ++ [v]) = nats s.stk ++ [Value.int .i64 ((v : Nat) : Int)] by simp, show (s.stk ++ [v]).length = s.stk.length + 1 by simp]; exact (by exact Sub.k (.pull [oI gx 25 (pC p k), oI z5 4 [(.bool false)], rowI (aD z2) 1 3 1 [(vI ((v : Nat) : Int))]] _ (.pull [oI gx 25 (pC p k)] _ (.pull [oI gx 25 (pC p k), rowI (aD z2) 1 3 1 [(vI ((v : Nat) : Int))]] _ (.pull [oI gx 25 (pC p k), rowI (aD z2) 1 3 1 [(vI ((v : Nat) : Int))]] _ (.pull [oI gx 25 (pC p k), rowI (aD z2) 1 3 1 [(vI ((v : Nat) : Int))]] _ (.pull [oI gx 25 (pC p k), rowI (aD z2) 1 3 1 [(vI ((v : Nat) : Int))]] _ (.pull [oI gx 25 (pC p k), rowI (aD z2) 1 3 1 [(vI ((v : Nat) : Int))]] _ (.pull [oI gx 25 (pC p k), rowI (aD z2) 1 3 1 [(vI ((v : Nat) : Int))]] _ (.pull [oI gx 25 (pC p k), rowI (aD z2) 1 3 1 [(vI ((v : Nat) : Int))]] _ (.pull [oI gx 25 (pC p k), rowI (aD z2) 1 3 1 [(vI ((v : Nat) : Int))]] _ (.pull [oI gx 25 (pC p k), rowI (aD z2) 1 3 1 [(vI ((v : Nat) : Int))]] _ (.k (.d (.k (.k (.k (.k (.k .rf)))))))))))))))))))) ?_
 refine T.rangeFunc (first := []) (caps := [(.pointer (aD yb))]) rfl ent94 (fun yl yq yhq => ?_)
 refine CallT.mono (CallT.sub (O' := oI yb 23 [(.slice v1 p.next[v].length c1)] :: (objI yl (lp yq none) :: ([oI z1 3 [(vI ((v : Nat) : Int))], oI z5 4 [(.bool false)], oI xc 3 [(vI ((s.clk + 1 : Nat) : Int))], oI xi 23 [(.slice ib p.next.length ic)], oI xl 23 [(.slice lb p.next.length lc)], oI xs 23 [(.slice z3 ((s.stk ++ [v]).length) zc4)], oI xg 76 [(vI ((p.next.length : Nat) : Int)), (.func (.func 77) #[] #[(.pointer (aD gx))])], oI xa 69 [fal], oI xv 103 [(.func (.func 79) #[] #[(.pointer (aD xc)), (.pointer (aD xi)), (.pointer (aD xl)), (.pointer (aD xs)), (.pointer (aD xg)), (.pointer (aD xa)), (.pointer (aD xv)), (.pointer (aD xd)), (.pointer (aD xo))])], oI xd 81 [(.slice db p.next.length dc)], oI xo 22 [(.slice ab ps.length ac)], oI gx 25 (pC p k), rowI ib ic 3 1 (nats (s.idx.set v (s.clk + 1))), rowI lb lc 3 1 (nats (s.low.set v (s.clk + 1))), rowI z3 zc4 3 1 (nats (s.stk ++ [v])), rowI db dc 4 1 (bools s.dn), rowI ab ac 23 1 (vals ps)] ++ (itms 3 ps ++ OO)))) (by exact Sub.pull [objI yl (lp yq none)] _ (.k (.k (.k (.k (.k (.k (.k (.k (.k (.k (.k (.k (.k (.k (.k (.k (.k (.k .rf))))))))))))))))))) (valsF base yb c1 v1 p.next[v] s1 (by omega) (.func (.yield yl) #[] #[]) (fun x O => ∃ (z : CL) (zb : Option Addr) (zc : Nat) (zab : Option Addr) (zac : Nat) (zps : List Rec) (t : List Nat), O = objI yl (lp yq none) :: ([oI z1 3 [(vI ((v : Nat) : Int))], oI z5 4 [(.bool (selfB p.d v x))], oI xc 3 [(vI ((z.clk : Nat) : Int))], oI xi 23 [(.slice ib p.next.length ic)], oI xl 23 [(.slice lb p.next.length lc)], oI xs 23 [(.slice zb z.stk.length zc)], oI xg 76 [(vI ((p.next.length : Nat) : Int)), (.func (.func 77) #[] #[(.pointer (aD gx))])], oI xa 69 [fal], oI xv 103 [(.func (.func 79) #[] #[(.pointer (aD xc)), (.pointer (aD xi)), (.pointer (aD xl)), (.pointer (aD xs)), (.pointer (aD xg)), (.pointer (aD xa)), (.pointer (aD xv)), (.pointer (aD xd)), (.pointer (aD xo))])], oI xd 81 [(.slice db p.next.length dc)], oI xo 22 [(.slice zab zps.length zac)], oI gx 25 (pC p k), rowI ib ic 3 1 (nats z.idx), rowI lb lc 3 1 (nats z.low), rowI zb zc 3 1 (nats z.stk), rowI db dc 4 1 (bools z.dn), rowI zab zac 23 1 (vals zps)] ++ (itms 3 zps ++ OO)) ∧ x ≤ letN p.d ∧ nums zps = z.all.map intY ∧ CRun p.d al gray s v x z t) ?_ _ ?_)) ?_
 ·intro x q9 O hq hJ
  obtain ⟨hxl9, hq9⟩ := List.getElem?_eq_some_iff.1 hq
  have hxl : x < letN p.d := by omega
  obtain ⟨hun0, _, hxk1, hx1⟩ := hv.toN_lt (show v < p.d.next.length from hvn) hxl
  have hun : toN p.d v x < p.next.length := hun0
  have hq9e : q9 = ((toN p.d v x : Nat) : Int) := hq9.symm.trans hx1
  subst hq9e
  obtain ⟨z, zb, zc, zab, zac, zps, t, rfl, hxle, hzp, hr⟩ := hJ
  refine CallV.yield yhq rfl rfl ?_
  have hli9 : z.idx.length = p.next.length := hr.ok.li
  have hll9 : z.low.length = p.next.length := hr.ok.ll
  have hld9 : z.dn.length = p.next.length := hr.ok.ld
  have hui : toN p.d v x < z.idx.length := by omega
  have hud : toN p.d v x < z.dn.length := by omega
  refine T.rg (TO.qa rfl (TO.nl (T.block (T.s (T.block (T.s (T.rg (TO.q (q_lb 7 underlying69 rfl rfl rfl rfl) (TO.qm rfl ?_)))))))))
  have hk39 := CallV.keepR ([oI z1 3 [(vI ((v : Nat) : Int))], oI z5 4 [(.bool (selfB p.d v x))], oI xc 3 [(vI ((z.clk : Nat) : Int))], oI xi 23 [(.slice ib p.next.length ic)], oI xl 23 [(.slice lb p.next.length lc)], oI xs 23 [(.slice zb z.stk.length zc)], oI xg 76 [(vI ((p.next.length : Nat) : Int)), (.func (.func 77) #[] #[(.pointer (aD gx))])], oI xa 69 [fal], oI xv 103 [(.func (.func 79) #[] #[(.pointer (aD xc)), (.pointer (aD xi)), (.pointer (aD xl)), (.pointer (aD xs)), (.pointer (aD xg)), (.pointer (aD xa)), (.pointer (aD xv)), (.pointer (aD xd)), (.pointer (aD xo))])], oI xd 81 [(.slice db p.next.length dc)], oI xo 22 [(.slice zab zps.length zac)], oI gx 25 (pC p k), rowI ib ic 3 1 (nats z.idx), rowI lb lc 3 1 (nats z.low), rowI zb zc 3 1 (nats z.stk), rowI db dc 4 1 (bools z.dn), rowI zab zac 23 1 (vals zps)] ++ itms 3 zps) (hal (toN p.d v x) hun)
  refine TO.l rfl (l_callG hk39 rfl rfl ?_)
  clear hk39
  rintro vr O' ⟨rfl, rfl⟩
  refine TO.q (q_not rfl) (TO.qa rfl (TO.nl (T.condP (p := ¬ al (toN p.d v x) = true) (congrArg Value.bool (by simp)) (fun hc => ?_) (fun hc => ?_))))
  ·have hnal : al (toN p.d v x) = false := Bool.eq_false_iff.2 hc
   refine T.skip (T.rg (TO.q (q_lb 1 underlying4 rfl rfl rfl rfl) ?_))
   by_cases h81 : (selfB p.d v x = true)
   ·refine TO.q (QT.toB (q_move rfl) (h81)) ?_
    refine TO.pd rfl rfl (TO.pd rfl rfl (TO.pd rfl rfl (TO.q (q_pick1 rfl rfl) (TO.l rfl (l_sb (v := .bool true) (vs := [(.bool true)]) 1 inf4 rfl rfl rfl rfl rfl rfl (by simp [putL]) ?_)))))
    refine TO.nl ?_
    exact ⟨rfl, z, zb, zc, zab, zac, zps, t, by rw [show selfB p.d v (x + 1) = true from (by first | exact selfB_t1 h81 | exact selfB_t2 (by omega) | exact selfB_f h81 (by omega))]; rfl, by omega, hzp, hr.no hnal⟩
   refine TO.q (QT.toB (q_move rfl) (Bool.eq_false_iff.2 h81)) (TO.gq rfl rfl (q_move rfl) (TO.gq rfl rfl (q_lb 0 underlying3 rfl rfl rfl rfl) ?_))
   by_cases h84 : ((toN p.d v x : Nat) : Int) = ((v : Nat) : Int)
   ·refine TO.gq rfl rfl (QT.toB (q_eql rfl rfl) (decide_eq_true h84)) ?_
    refine TO.q (q_pick0 rfl rfl) (TO.l rfl (l_sb (v := .bool true) (vs := [(.bool true)]) 1 inf4 rfl rfl rfl rfl rfl rfl (by simp [putL]) ?_))
    refine TO.nl ?_
    exact ⟨rfl, z, zb, zc, zab, zac, zps, t, by rw [show selfB p.d v (x + 1) = true from (by first | exact selfB_t1 h81 | exact selfB_t2 (by omega) | exact selfB_f h81 (by omega))]; rfl, by omega, hzp, hr.no hnal⟩
   refine TO.gq rfl rfl (QT.toB (q_eql rfl rfl) (decide_eq_false h84)) (TO.q (q_pick0 rfl rfl) (TO.l rfl (l_sb (v := .bool false) (vs := [(.bool false)]) 1 inf4 rfl rfl rfl rfl rfl rfl (by simp [putL]) ?_)))
   refine TO.nl ?_
   exact ⟨rfl, z, zb, zc, zab, zac, zps, t, by rw [show selfB p.d v (x + 1) = false from (by first | exact selfB_t1 h81 | exact selfB_t2 (by omega) | exact selfB_f h81 (by omega))]; rfl, by omega, hzp, hr.no hnal⟩
  have h36 : al (toN p.d v x) = true := Classical.not_not.1 hc
  refine T.s (T.rg (TO.q (q_lb 3 underlying23 rfl rfl rfl rfl) (TO.qm rfl (TO.q (q_ix (i := (toN p.d v x)) underlying23 inf3 rfl rfl (rowO (mG 12 rfl)) hun (by rw [List.length_map]; exact hui)) (TO.q (q_ld underlying3 rfl rfl (rowO (mG 12 rfl)) (nats_get hui)) (TO.q (q_eql rfl rfl) (TO.qa rfl (TO.nl (T.condP rfl (fun hc => ?_) (fun hc => ?_))))))))))
  ·have hlt41 : z.idx[toN p.d v x] = 0 := by omega
   have hi0a : z.idx[toN p.d v x] = 0 := by omega
   have hi0 : z.idx.getD (toN p.d v x) 0 = 0 := by rw [gd hui]; exact hi0a
   refine T.s (T.rg (TO.q (q_lb 8 underlying103 rfl rfl rfl rfl) (TO.qm rfl ?_)))
   have hk49 := CallV.atR [oI z1 3 [(vI ((v : Nat) : Int))], oI z5 4 [(.bool (selfB p.d v x))]] (CallV.of_fn (first := []) (args := [vI ((toN p.d v x : Nat) : Int)]) (caps := [(.pointer (aD xc)), (.pointer (aD xi)), (.pointer (aD xl)), (.pointer (aD xs)), (.pointer (aD xg)), (.pointer (aD xa)), (.pointer (aD xv)), (.pointer (aD xd)), (.pointer (aD xo))]) ent79 (ih _ (by have := hr.lt; omega) z zb zc zab zac zps (gray ++ [v]) (toN p.d v x) rfl hzp hr.ok hr.lp.inv hun hi0a h36 (CRun.child hg hvn hav hxl h36)))
   refine TO.l rfl (l_callG hk49 rfl rfl ?_)
   clear hk49
   rintro vr O' ⟨A1, rfl, z2, zb2, zc2, zab2, zac2, zps2, t2, rfl, hzp2, hd2⟩
   have hli2 : z2.idx.length = p.next.length := hd2.ok.li
   have hll2 : z2.low.length = p.next.length := hd2.ok.ll
   refine TO.nl ?_
   refine T.draws _ [(0, 0), (1, 0), (2, 0), (3, 0), (4, 0), (5, 0), (6, 0), (7, 0), (8, 0), (9, 0), (10, 0), (11, 0), (12, 2)] mixed (drawF_ok (by kernel_rfl)) (Sub.of (List.Sublist.refl _)) (fun _ _ _ h => h) ?_
   refine DO.q rfl (q_lb 4 underlying23 rfl rfl rfl rfl) (DO.q rfl (q_lb 0 underlying3 rfl rfl rfl rfl) (DO.q rfl (q_lb 4 underlying23 rfl rfl rfl rfl) (DO.q rfl (q_lb 0 underlying3 rfl rfl rfl rfl) (DO.q rfl (q_ix (i := v) underlying23 inf3 rfl rfl (rowO (mG 13 rfl))) (DO.q rfl (q_ld underlying3 rfl rfl (rowO (mG 13 rfl)) nats_get) (DO.q rfl (q_lb 4 underlying23 rfl rfl rfl rfl) (DO.q rfl (q_move rfl) (DO.q rfl (q_ix (i := (toN p.d v x)) underlying23 inf3 rfl rfl (rowO (mG 13 rfl))) (DO.q rfl (q_ld underlying3 rfl rfl (rowO (mG 13 rfl)) nats_get) (DO.q rfl (q_minN (a := z2.low[v]) (b := (z2.low[toN p.d v x])) rfl rfl) (DO.q rfl (q_ix (i := v) underlying23 inf3 rfl rfl (rowO (mG 13 rfl))) ?_)))))))))))
   refine DO.last rfl rfl (l_st (j := v) (v := vI ((min z2.low[v] (z2.low[toN p.d v x]) : Nat) : Int)) (vs := [(vI ((min z2.low[v] (z2.low[toN p.d v x]) : Nat) : Int))]) (cs := nats z2.low) 13 inf3 rfl rfl rfl rfl rfl (by simp) rfl (by first | (simp; omega) | (simp_all; omega)) ?_)
   refine DO.sub (O' := ([oI z1 3 [(vI ((v : Nat) : Int))], oI z5 4 [(.bool (selfB p.d v x))], oI xc 3 [(vI ((z2.clk : Nat) : Int))], oI xi 23 [(.slice ib p.next.length ic)], oI xl 23 [(.slice lb p.next.length lc)], oI xs 23 [(.slice zb2 z2.stk.length zc2)], oI xg 76 [(vI ((p.next.length : Nat) : Int)), (.func (.func 77) #[] #[(.pointer (aD gx))])], oI xa 69 [fal], oI xv 103 [(.func (.func 79) #[] #[(.pointer (aD xc)), (.pointer (aD xi)), (.pointer (aD xl)), (.pointer (aD xs)), (.pointer (aD xg)), (.pointer (aD xa)), (.pointer (aD xv)), (.pointer (aD xd)), (.pointer (aD xo))])], oI xd 81 [(.slice db p.next.length dc)], oI xo 22 [(.slice zab2 zps2.length zac2)], oI gx 25 (pC p k), rowI ib ic 3 1 (nats z2.idx), rowI lb lc 3 1 (nats (z2.low.set v (min z2.low[v] z2.low[toN p.d v x]))), rowI zb2 zc2 3 1 (nats z2.stk), rowI db dc 4 1 (bools z2.dn), rowI zab2 zac2 23 1 (vals zps2)] ++ (itms 3 zps2 ++ OO))) (by rw [show putL (nats z2.low) v [(vI ((min z2.low[v] (z2.low[toN p.d v x]) : Nat) : Int))] = nats (z2.low.set v (min z2.low[v] z2.low[toN p.d v x])) from (by simp [putL])]; exact Sub.of (List.Sublist.refl _)) ?_
   refine DO.done ?_
   refine T.rg (TO.q (q_lb 1 underlying4 rfl rfl rfl rfl) ?_)
   by_cases h81 : (selfB p.d v x = true)
   ·refine TO.q (QT.toB (q_move rfl) (h81)) ?_
    refine TO.pd rfl rfl (TO.pd rfl rfl (TO.pd rfl rfl (TO.q (q_pick1 rfl rfl) (TO.l rfl (l_sb (v := .bool true) (vs := [(.bool true)]) 1 inf4 rfl rfl rfl rfl rfl rfl (by simp [putL]) ?_)))))
    refine TO.nl ?_
    exact ⟨rfl, { z2 with low := z2.low.set v (min z2.low[v] z2.low[toN p.d v x]) }, zb2, zc2, zab2, zac2, zps2, t ++ t2, by rw [show selfB p.d v (x + 1) = true from (by first | exact selfB_t1 h81 | exact selfB_t2 (by omega) | exact selfB_f h81 (by omega))]; rfl, by omega, hzp2, hr.tree h0 hvn hav hxl h36 hi0 hd2 (by rw [gd (by omega), gd (by omega)])⟩
   refine TO.q (QT.toB (q_move rfl) (Bool.eq_false_iff.2 h81)) (TO.gq rfl rfl (q_move rfl) (TO.gq rfl rfl (q_lb 0 underlying3 rfl rfl rfl rfl) ?_))
   by_cases h84 : ((toN p.d v x : Nat) : Int) = ((v : Nat) : Int)
   ·refine TO.gq rfl rfl (QT.toB (q_eql rfl rfl) (decide_eq_true h84)) ?_
    refine TO.q (q_pick0 rfl rfl) (TO.l rfl (l_sb (v := .bool true) (vs := [(.bool true)]) 1 inf4 rfl rfl rfl rfl rfl rfl (by simp [putL]) ?_))
    refine TO.nl ?_
    exact ⟨rfl, { z2 with low := z2.low.set v (min z2.low[v] z2.low[toN p.d v x]) }, zb2, zc2, zab2, zac2, zps2, t ++ t2, by rw [show selfB p.d v (x + 1) = true from (by first | exact selfB_t1 h81 | exact selfB_t2 (by omega) | exact selfB_f h81 (by omega))]; rfl, by omega, hzp2, hr.tree h0 hvn hav hxl h36 hi0 hd2 (by rw [gd (by omega), gd (by omega)])⟩
   refine TO.gq rfl rfl (QT.toB (q_eql rfl rfl) (decide_eq_false h84)) (TO.q (q_pick0 rfl rfl) (TO.l rfl (l_sb (v := .bool false) (vs := [(.bool false)]) 1 inf4 rfl rfl rfl rfl rfl rfl (by simp [putL]) ?_)))
   refine TO.nl ?_
   exact ⟨rfl, { z2 with low := z2.low.set v (min z2.low[v] z2.low[toN p.d v x]) }, zb2, zc2, zab2, zac2, zps2, t ++ t2, by rw [show selfB p.d v (x + 1) = false from (by first | exact selfB_t1 h81 | exact selfB_t2 (by omega) | exact selfB_f h81 (by omega))]; rfl, by omega, hzp2, hr.tree h0 hvn hav hxl h36 hi0 hd2 (by rw [gd (by omega), gd (by omega)])⟩
  have hge41 : ¬ z.idx[toN p.d v x] = 0 := by omega
  have hi1 : z.idx.getD (toN p.d v x) 0 ≠ 0 := by rw [gd hui]; omega
  refine T.s (T.rg (TO.q (q_lb 9 underlying81 rfl rfl rfl rfl) (TO.qm rfl (TO.q (q_ix (i := (toN p.d v x)) underlying81 inf4 rfl rfl (rowO (mG 15 rfl)) hun (by rw [List.length_map]; exact hud)) (TO.q (q_ld underlying4 rfl rfl (rowO (mG 15 rfl)) (bools_get hud)) (TO.q (q_not rfl) (TO.qa rfl (TO.nl (T.condP (p := ¬ z.dn[toN p.d v x] = true) (congrArg Value.bool (by cases z.dn[toN p.d v x] <;> rfl)) (fun hc => ?_) (fun hc => ?_))))))))))
  ·have hdn0 : z.dn.getD (toN p.d v x) false = false := by rw [List.getD_eq_getElem?_getD, List.getElem?_eq_getElem hud]; exact Bool.eq_false_iff.2 hc
   refine T.draws _ [(0, 0), (1, 0), (2, 0), (3, 0), (4, 0), (5, 0), (6, 0), (7, 0), (8, 0), (9, 0), (10, 0), (11, 0), (12, 2)] mixed (drawF_ok (by kernel_rfl)) (Sub.of (List.Sublist.refl _)) (fun _ _ _ h => h) ?_
   refine DO.q rfl (q_lb 4 underlying23 rfl rfl rfl rfl) (DO.q rfl (q_lb 0 underlying3 rfl rfl rfl rfl) (DO.q rfl (q_lb 4 underlying23 rfl rfl rfl rfl) (DO.q rfl (q_lb 0 underlying3 rfl rfl rfl rfl) (DO.q rfl (q_ix (i := v) underlying23 inf3 rfl rfl (rowO (mG 13 rfl))) (DO.q rfl (q_ld underlying3 rfl rfl (rowO (mG 13 rfl)) nats_get) (DO.q rfl (q_lb 3 underlying23 rfl rfl rfl rfl) (DO.q rfl (q_move rfl) (DO.q rfl (q_ix (i := (toN p.d v x)) underlying23 inf3 rfl rfl (rowO (mG 12 rfl)) hun (by rw [List.length_map]; exact hui)) (DO.q rfl (q_ld underlying3 rfl rfl (rowO (mG 12 rfl)) (nats_get hui)) (DO.q rfl (q_minN (a := z.low[v]) (b := (z.idx[toN p.d v x])) rfl rfl) (DO.q rfl (q_ix (i := v) underlying23 inf3 rfl rfl (rowO (mG 13 rfl))) ?_)))))))))))
   refine DO.last rfl rfl (l_st (j := v) (v := vI ((min z.low[v] (z.idx[toN p.d v x]) : Nat) : Int)) (vs := [(vI ((min z.low[v] (z.idx[toN p.d v x]) : Nat) : Int))]) (cs := nats z.low) 13 inf3 rfl rfl rfl rfl rfl (by simp) rfl (by first | (simp; omega) | (simp_all; omega)) ?_)
   refine DO.sub (O' := ([oI z1 3 [(vI ((v : Nat) : Int))], oI z5 4 [(.bool (selfB p.d v x))], oI xc 3 [(vI ((z.clk : Nat) : Int))], oI xi 23 [(.slice ib p.next.length ic)], oI xl 23 [(.slice lb p.next.length lc)], oI xs 23 [(.slice zb z.stk.length zc)], oI xg 76 [(vI ((p.next.length : Nat) : Int)), (.func (.func 77) #[] #[(.pointer (aD gx))])], oI xa 69 [fal], oI xv 103 [(.func (.func 79) #[] #[(.pointer (aD xc)), (.pointer (aD xi)), (.pointer (aD xl)), (.pointer (aD xs)), (.pointer (aD xg)), (.pointer (aD xa)), (.pointer (aD xv)), (.pointer (aD xd)), (.pointer (aD xo))])], oI xd 81 [(.slice db p.next.length dc)], oI xo 22 [(.slice zab zps.length zac)], oI gx 25 (pC p k), rowI ib ic 3 1 (nats z.idx), rowI lb lc 3 1 (nats (z.low.set v (min z.low[v] z.idx[toN p.d v x]))), rowI zb zc 3 1 (nats z.stk), rowI db dc 4 1 (bools z.dn), rowI zab zac 23 1 (vals zps)] ++ (itms 3 zps ++ OO))) (by rw [show putL (nats z.low) v [(vI ((min z.low[v] (z.idx[toN p.d v x]) : Nat) : Int))] = nats (z.low.set v (min z.low[v] z.idx[toN p.d v x])) from (by simp [putL])]; exact Sub.of (List.Sublist.refl _)) ?_
   refine DO.done ?_
   refine T.rg (TO.q (q_lb 1 underlying4 rfl rfl rfl rfl) ?_)
   by_cases h81 : (selfB p.d v x = true)
   ·refine TO.q (QT.toB (q_move rfl) (h81)) ?_
    refine TO.pd rfl rfl (TO.pd rfl rfl (TO.pd rfl rfl (TO.q (q_pick1 rfl rfl) (TO.l rfl (l_sb (v := .bool true) (vs := [(.bool true)]) 1 inf4 rfl rfl rfl rfl rfl rfl (by simp [putL]) ?_)))))
    refine TO.nl ?_
    exact ⟨rfl, { z with low := z.low.set v (min z.low[v] z.idx[toN p.d v x]) }, zb, zc, zab, zac, zps, t, by rw [show selfB p.d v (x + 1) = true from (by first | exact selfB_t1 h81 | exact selfB_t2 (by omega) | exact selfB_f h81 (by omega))]; rfl, by omega, hzp, hr.back h0 hvn hav hxl hun h36 hi1 hdn0 (by rw [gd (by omega), gd (by omega)])⟩
   refine TO.q (QT.toB (q_move rfl) (Bool.eq_false_iff.2 h81)) (TO.gq rfl rfl (q_move rfl) (TO.gq rfl rfl (q_lb 0 underlying3 rfl rfl rfl rfl) ?_))
   by_cases h84 : ((toN p.d v x : Nat) : Int) = ((v : Nat) : Int)
   ·refine TO.gq rfl rfl (QT.toB (q_eql rfl rfl) (decide_eq_true h84)) ?_
    refine TO.q (q_pick0 rfl rfl) (TO.l rfl (l_sb (v := .bool true) (vs := [(.bool true)]) 1 inf4 rfl rfl rfl rfl rfl rfl (by simp [putL]) ?_))
    refine TO.nl ?_
    exact ⟨rfl, { z with low := z.low.set v (min z.low[v] z.idx[toN p.d v x]) }, zb, zc, zab, zac, zps, t, by rw [show selfB p.d v (x + 1) = true from (by first | exact selfB_t1 h81 | exact selfB_t2 (by omega) | exact selfB_f h81 (by omega))]; rfl, by omega, hzp, hr.back h0 hvn hav hxl hun h36 hi1 hdn0 (by rw [gd (by omega), gd (by omega)])⟩
   refine TO.gq rfl rfl (QT.toB (q_eql rfl rfl) (decide_eq_false h84)) (TO.q (q_pick0 rfl rfl) (TO.l rfl (l_sb (v := .bool false) (vs := [(.bool false)]) 1 inf4 rfl rfl rfl rfl rfl rfl (by simp [putL]) ?_)))
   refine TO.nl ?_
   exact ⟨rfl, { z with low := z.low.set v (min z.low[v] z.idx[toN p.d v x]) }, zb, zc, zab, zac, zps, t, by rw [show selfB p.d v (x + 1) = false from (by first | exact selfB_t1 h81 | exact selfB_t2 (by omega) | exact selfB_f h81 (by omega))]; rfl, by omega, hzp, hr.back h0 hvn hav hxl hun h36 hi1 hdn0 (by rw [gd (by omega), gd (by omega)])⟩
  have hdn1 : z.dn.getD (toN p.d v x) false = true := by rw [List.getD_eq_getElem?_getD, List.getElem?_eq_getElem hud]; exact Classical.not_not.1 hc
  refine T.skip (T.rg (TO.q (q_lb 1 underlying4 rfl rfl rfl rfl) ?_))
  by_cases h81 : (selfB p.d v x = true)
  ·refine TO.q (QT.toB (q_move rfl) (h81)) ?_
   refine TO.pd rfl rfl (TO.pd rfl rfl (TO.pd rfl rfl (TO.q (q_pick1 rfl rfl) (TO.l rfl (l_sb (v := .bool true) (vs := [(.bool true)]) 1 inf4 rfl rfl rfl rfl rfl rfl (by simp [putL]) ?_)))))
   refine TO.nl ?_
   exact ⟨rfl, z, zb, zc, zab, zac, zps, t, by rw [show selfB p.d v (x + 1) = true from (by first | exact selfB_t1 h81 | exact selfB_t2 (by omega) | exact selfB_f h81 (by omega))]; rfl, by omega, hzp, hr.skip h0 hxl hun h36 hi1 hdn1⟩
  refine TO.q (QT.toB (q_move rfl) (Bool.eq_false_iff.2 h81)) (TO.gq rfl rfl (q_move rfl) (TO.gq rfl rfl (q_lb 0 underlying3 rfl rfl rfl rfl) ?_))
  by_cases h84 : ((toN p.d v x : Nat) : Int) = ((v : Nat) : Int)
  ·refine TO.gq rfl rfl (QT.toB (q_eql rfl rfl) (decide_eq_true h84)) ?_
   refine TO.q (q_pick0 rfl rfl) (TO.l rfl (l_sb (v := .bool true) (vs := [(.bool true)]) 1 inf4 rfl rfl rfl rfl rfl rfl (by simp [putL]) ?_))
   refine TO.nl ?_
   exact ⟨rfl, z, zb, zc, zab, zac, zps, t, by rw [show selfB p.d v (x + 1) = true from (by first | exact selfB_t1 h81 | exact selfB_t2 (by omega) | exact selfB_f h81 (by omega))]; rfl, by omega, hzp, hr.skip h0 hxl hun h36 hi1 hdn1⟩
  refine TO.gq rfl rfl (QT.toB (q_eql rfl rfl) (decide_eq_false h84)) (TO.q (q_pick0 rfl rfl) (TO.l rfl (l_sb (v := .bool false) (vs := [(.bool false)]) 1 inf4 rfl rfl rfl rfl rfl rfl (by simp [putL]) ?_)))
  refine TO.nl ?_
  exact ⟨rfl, z, zb, zc, zab, zac, zps, t, by rw [show selfB p.d v (x + 1) = false from (by first | exact selfB_t1 h81 | exact selfB_t2 (by omega) | exact selfB_f h81 (by omega))]; rfl, by omega, hzp, hr.skip h0 hxl hun h36 hi1 hdn1⟩
 ·exact ⟨{ s with idx := s.idx.set v (s.clk + 1), low := s.low.set v (s.clk + 1), stk := s.stk ++ [v], clk := s.clk + 1 }, z3, zc4, ab, ac, ps, [], rfl, Nat.zero_le _, hps, CRun.enter hok h0 hvn hv0 hav hg⟩
 rintro v9 O' ⟨z, zb, zc, zab, zac, zps, t, rfl, _, hzp, hr⟩
 rw [hrl] at hr
 have hli9 : z.idx.length = p.next.length := hr.ok.li
 have hll9 : z.low.length = p.next.length := hr.ok.ll
 have hld9 : z.dn.length = p.next.length := hr.ok.ld
 have hvi : v < z.idx.length := by omega
 have hvll : v < z.low.length := by omega
 have hst9 : z.stk = s.stk ++ v :: t := hr.stkv
 have hnd9 := hr.nd
 have hzs : z.stk.length ≤ 4096 := by have h1 := hr.ok.sk; have h2 := hr.ok.ck; omega
 have hsl9 : z.stk.length = s.stk.length + (t.length + 1) := by rw [hst9]; simp
 have hzl9 : zps.length ≤ 4096 := by have h1 := hr.few; have h2 := congrArg List.length hzp; simp only [List.length_map] at h2; have h3 : p.d.next.length = p.next.length := rfl; omega
 refine ⟨none, _, rfl, ?_⟩
 refine T.s (T.s ?_)
 refine T.sub (O' := [oI z1 3 [(vI ((v : Nat) : Int))], oI z5 4 [(.bool (selfB p.d v p.next[v].length))], oI xc 3 [(vI ((z.clk : Nat) : Int))], oI xi 23 [(.slice ib p.next.length ic)], oI xl 23 [(.slice lb p.next.length lc)], oI xs 23 [(.slice zb z.stk.length zc)], oI xg 76 [(vI ((p.next.length : Nat) : Int)), (.func (.func 77) #[] #[(.pointer (aD gx))])], oI xa 69 [fal], oI xv 103 [(.func (.func 79) #[] #[(.pointer (aD xc)), (.pointer (aD xi)), (.pointer (aD xl)), (.pointer (aD xs)), (.pointer (aD xg)), (.pointer (aD xa)), (.pointer (aD xv)), (.pointer (aD xd)), (.pointer (aD xo))])], oI xd 81 [(.slice db p.next.length dc)], oI xo 22 [(.slice zab zps.length zac)], oI gx 25 (pC p k), rowI ib ic 3 1 (nats z.idx), rowI lb lc 3 1 (nats z.low), rowI zb zc 3 1 (nats z.stk), rowI db dc 4 1 (bools z.dn), rowI zab zac 23 1 (vals zps)] ++ (itms 3 zps ++ OO)) Sub.rf ?_
 refine T.draws _ [(0, 0), (1, 0), (2, 0), (3, 0), (4, 0), (5, 0), (6, 0), (7, 0), (8, 0)] mixed (by kernel_rfl) (Sub.of (List.Sublist.refl _)) (fun _ _ _ h => h) ?_
 refine DO.q rfl (q_lb 4 underlying23 rfl rfl rfl rfl) (DO.q rfl (q_lb 0 underlying3 rfl rfl rfl rfl) (DO.q rfl (q_ix (i := v) underlying23 inf3 rfl rfl (rowO (mG 13 rfl)) hvn (by rw [List.length_map]; exact hvll)) (DO.q rfl (q_ld underlying3 rfl rfl (rowO (mG 13 rfl)) (nats_get hvll)) (DO.q rfl (q_lb 3 underlying23 rfl rfl rfl rfl) (DO.q rfl (q_lb 0 underlying3 rfl rfl rfl rfl) (DO.q rfl (q_ix (i := v) underlying23 inf3 rfl rfl (rowO (mG 12 rfl)) hvn (by rw [List.length_map]; exact hvi)) (DO.q rfl (q_ld underlying3 rfl rfl (rowO (mG 12 rfl)) (nats_get hvi)) (DO.q rfl (q_neq rfl rfl) ?_))))))))
 refine DO.done ?_
 refine T.condP rfl (fun hc => ?_) (fun hc => ?_)
 ·have hlt94 : z.low[v] ≠ z.idx[v] := by omega
  have hne9 : z.low.getD v 0 ≠ z.idx.getD v 0 := by rw [gd hvll, gd hvi]; omega
  refine T.ret (Res.drop ?_)
  refine Res.zero Tryd.results79 ?_
  exact ⟨[oI xc 3 [(vI ((z.clk : Nat) : Int))], oI xi 23 [(.slice ib p.next.length ic)], oI xl 23 [(.slice lb p.next.length lc)], oI xs 23 [(.slice zb z.stk.length zc)], oI xg 76 [(vI ((p.next.length : Nat) : Int)), (.func (.func 77) #[] #[(.pointer (aD gx))])], oI xa 69 [fal], oI xv 103 [(.func (.func 79) #[] #[(.pointer (aD xc)), (.pointer (aD xi)), (.pointer (aD xl)), (.pointer (aD xs)), (.pointer (aD xg)), (.pointer (aD xa)), (.pointer (aD xv)), (.pointer (aD xd)), (.pointer (aD xo))])], oI xd 81 [(.slice db p.next.length dc)], oI xo 22 [(.slice zab zps.length zac)], oI gx 25 (pC p k), rowI ib ic 3 1 (nats z.idx), rowI lb lc 3 1 (nats z.low), rowI zb zc 3 1 (nats z.stk), rowI db dc 4 1 (bools z.dn), rowI zab zac 23 1 (vals zps)] ++ (itms 3 zps ++ OO), (by exact Sub.d (.d (.k (.k (.k (.k (.k (.k (.k (.k (.k (.k (.k (.k (.k (.k (.k .rf))))))))))))))))), z, zb, zc, zab, zac, zps, v :: t, rfl, hzp, hr.leave h0 rfl hne9⟩
 have hge94 : ¬ z.low[v] ≠ z.idx[v] := by omega
 have heq9 : z.low.getD v 0 = z.idx.getD v 0 := by rw [gd hvll, gd hvi]; omega
 refine T.skip (T.s (T.rg (TO.q (q_lb 5 underlying23 rfl rfl rfl rfl) (TO.q (q_lb 0 underlying3 rfl rfl rfl rfl) ?_))))
 have hk97 := fun (w1 : World) (hI : Inv base ([oI z1 3 [(vI ((v : Nat) : Int))], oI z5 4 [(.bool (selfB p.d v p.next[v].length))], oI xc 3 [(vI ((z.clk : Nat) : Int))], oI xi 23 [(.slice ib p.next.length ic)], oI xl 23 [(.slice lb p.next.length lc)], oI xs 23 [(.slice zb z.stk.length zc)], oI xg 76 [(vI ((p.next.length : Nat) : Int)), (.func (.func 77) #[] #[(.pointer (aD gx))])], oI xa 69 [fal], oI xv 103 [(.func (.func 79) #[] #[(.pointer (aD xc)), (.pointer (aD xi)), (.pointer (aD xl)), (.pointer (aD xs)), (.pointer (aD xg)), (.pointer (aD xa)), (.pointer (aD xv)), (.pointer (aD xd)), (.pointer (aD xo))])], oI xd 81 [(.slice db p.next.length dc)], oI xo 22 [(.slice zab zps.length zac)], oI gx 25 (pC p k), rowI ib ic 3 1 (nats z.idx), rowI lb lc 3 1 (nats z.low), rowI zb zc 3 1 (nats z.stk), rowI db dc 4 1 (bools z.dn), rowI zab zac 23 1 (vals zps)] ++ (itms 3 zps ++ OO)) w1) => (haveI := Inv.tab (P := Tryd.prog) hI; indexN w1 zb zc z.stk (hI.slOf (mG 14 rfl)) (by omega) v (by rw [hst9]; simp))
 refine TO.l rfl (l_call ent80 (CallT.op hk97) rfl ?_)
 clear hk97
 rintro vr O' ⟨N, rfl, ⟨ix9, hix, hixe, hix0, rfl⟩, rfl⟩
 obtain rfl := idx_at hst9 hr.vnot hixe hix0
 refine TO.qa rfl (TO.nl (T.s ?_))
 refine T.have (φ := z.stk.length ≤ zc) (fun w9 hI => by have := rowP.cap (hI.row (i := 14) rfl); simpa using this) (fun hcap => ?_)
 have hdr9 : z.stk.drop s.stk.length = v :: t := by rw [hst9]; simp
 have hsub9 : z.stk.length - s.stk.length = (intY (v :: t)).length := by rw [intY_len]; simp; omega
 refine T.rg (TO.q (q_lb 5 underlying23 rfl rfl rfl rfl) (TO.qm rfl (TO.q (QT.cast (q_sliceFrom (lo := s.stk.length) underlying23 inf3 rfl rfl (by omega) (by omega)) (v' := .slice (subB zb zc s.stk.length 1) (intY (v :: t)).length (zc - s.stk.length)) (by rw [hsub9])) ?_)))
 have hk101 := fun (w1 : World) (hI : Inv base ([oI z1 3 [(vI ((v : Nat) : Int))], oI z5 4 [(.bool (selfB p.d v p.next[v].length))], oI xc 3 [(vI ((z.clk : Nat) : Int))], oI xi 23 [(.slice ib p.next.length ic)], oI xl 23 [(.slice lb p.next.length lc)], oI xs 23 [(.slice zb z.stk.length zc)], oI xg 76 [(vI ((p.next.length : Nat) : Int)), (.func (.func 77) #[] #[(.pointer (aD gx))])], oI xa 69 [fal], oI xv 103 [(.func (.func 79) #[] #[(.pointer (aD xc)), (.pointer (aD xi)), (.pointer (aD xl)), (.pointer (aD xs)), (.pointer (aD xg)), (.pointer (aD xa)), (.pointer (aD xv)), (.pointer (aD xd)), (.pointer (aD xo))])], oI xd 81 [(.slice db p.next.length dc)], oI xo 22 [(.slice zab zps.length zac)], oI gx 25 (pC p k), rowI ib ic 3 1 (nats z.idx), rowI lb lc 3 1 (nats z.low), rowI zb zc 3 1 (nats z.stk), rowI db dc 4 1 (bools z.dn), rowI zab zac 23 1 (vals zps)] ++ (itms 3 zps ++ OO)) w1) => (haveI := Inv.tab (P := Tryd.prog) hI; cloneI w1 (subB zb zc s.stk.length 1) (zc - s.stk.length) (intY (v :: t)) (by rw [ints_intY, ← hdr9]; exact Sl.ndrop (hI.slOf (mG 14 rfl)) s.stk.length hcap) (by omega))
 refine TO.l rfl (l_call ent57 (CallT.op hk101) rfl ?_)
 clear hk101
 rintro vr O' ⟨N, rfl, pb9, pc9, rfl, rfl⟩
 refine TO.qa rfl (TO.nl (T.s (T.rg (TO.q (q_lb 6 underlying23 rfl rfl rfl rfl) (TO.qm rfl (TO.l rfl (l_head (m := s.stk.length) 15 underlying23 inf3 rfl rfl rfl (by omega) ?_)))))))
 refine TO.sub (O' := ([rowI pb9 pc9 3 1 (ints (intY (v :: t))), oI z1 3 [(vI ((v : Nat) : Int))], oI z5 4 [(.bool (selfB p.d v p.next[v].length))], oI xc 3 [(vI ((z.clk : Nat) : Int))], oI xi 23 [(.slice ib p.next.length ic)], oI xl 23 [(.slice lb p.next.length lc)], oI xs 23 [(.slice zb z.stk.length zc)], oI xg 76 [(vI ((p.next.length : Nat) : Int)), (.func (.func 77) #[] #[(.pointer (aD gx))])], oI xa 69 [fal], oI xv 103 [(.func (.func 79) #[] #[(.pointer (aD xc)), (.pointer (aD xi)), (.pointer (aD xl)), (.pointer (aD xs)), (.pointer (aD xg)), (.pointer (aD xa)), (.pointer (aD xv)), (.pointer (aD xd)), (.pointer (aD xo))])], oI xd 81 [(.slice db p.next.length dc)], oI xo 22 [(.slice zab zps.length zac)], oI gx 25 (pC p k), rowI ib ic 3 1 (nats z.idx), rowI lb lc 3 1 (nats z.low), rowI zb zc 3 1 (nats s.stk), rowI db dc 4 1 (bools z.dn), rowI zab zac 23 1 (vals zps)] ++ (itms 3 zps ++ OO))) (by rw [show (nats z.stk).take (s.stk.length * 1) = nats s.stk from (by rw [Nat.mul_one, ← List.map_take, hst9, List.take_left])]; exact Sub.of (List.Sublist.refl _)) ?_
 refine TO.l rfl (l_sb (v := (.slice zb s.stk.length zc)) (vs := [(.slice zb s.stk.length zc)]) 6 inf23 rfl rfl rfl rfl rfl rfl (by simp [putL]) ?_)
 refine TO.nl (T.s (T.s (T.rg (TO.qm rfl (TO.q (q_len underlying23 rfl) (TO.qm rfl (TO.nl (T.block ?_))))))))
 have hpl9 : (intY (v :: t)).length = (v :: t).length := intY_len _
 refine T.loopS (fun (j : Nat) ρ O => ∃ (dn9 : List Bool), O = ([rowI pb9 pc9 3 1 (ints (intY (v :: t))), oI z1 3 [(vI ((v : Nat) : Int))], oI z5 4 [(.bool (selfB p.d v p.next[v].length))], oI xc 3 [(vI ((z.clk : Nat) : Int))], oI xi 23 [(.slice ib p.next.length ic)], oI xl 23 [(.slice lb p.next.length lc)], oI xs 23 [(.slice zb s.stk.length zc)], oI xg 76 [(vI ((p.next.length : Nat) : Int)), (.func (.func 77) #[] #[(.pointer (aD gx))])], oI xa 69 [fal], oI xv 103 [(.func (.func 79) #[] #[(.pointer (aD xc)), (.pointer (aD xi)), (.pointer (aD xl)), (.pointer (aD xs)), (.pointer (aD xg)), (.pointer (aD xa)), (.pointer (aD xv)), (.pointer (aD xd)), (.pointer (aD xo))])], oI xd 81 [(.slice db p.next.length dc)], oI xo 22 [(.slice zab zps.length zac)], oI gx 25 (pC p k), rowI ib ic 3 1 (nats z.idx), rowI lb lc 3 1 (nats z.low), rowI zb zc 3 1 (nats s.stk), rowI db dc 4 1 (bools dn9), rowI zab zac 23 1 (vals zps)] ++ (itms 3 zps ++ OO)) ∧ j ≤ (intY (v :: t)).length ∧ dn9.length = p.next.length ∧ (∀ y, y < p.next.length → dn9.getD y false = (decide (y ∈ (v :: t).take j) || z.dn.getD y false)) ∧ Heads [(0, vI ((v : Nat) : Int)), (1, (.pointer (aD xc))), (2, (.pointer (aD xi))), (3, (.pointer (aD xl))), (4, (.pointer (aD xs))), (5, (.pointer (aD xg))), (6, (.pointer (aD xa))), (7, (.pointer (aD xv))), (8, (.pointer (aD xd))), (9, (.pointer (aD xo))), (10, (.pointer (aD z1))), (11, (.pointer (aD z5))), (13, vI ((s.stk.length : Nat) : Int)), (14, (.slice pb9 ((intY (v :: t)).length) pc9)), (105, (.slice pb9 ((intY (v :: t)).length) pc9)), (106, vI ((intY (v :: t)).length : Int)), (107, vI ((j : Nat) : Int))] ρ) (fun j => (intY (v :: t)).length - j) 0 ?_ ?_
 ·exact ⟨z.dn, rfl, Nat.zero_le _, hld9, fun y hy => by simp, (.of rfl)⟩
 rintro j ρ O ⟨dn9, rfl, hj, hdl, hdn, hH⟩
 obtain ⟨ρ0, rfl⟩ := hH.elim
 clear hH
 refine T.s (T.rg (TO.q (q_lss rfl rfl) (TO.nl (T.s (T.condP rfl (fun hc => ?_) (fun hc => ?_))))))
 ·have hlt108 : j < (intY (v :: t)).length := by omega
  have hjl : j < (v :: t).length := by omega
  have hjs : (v :: t)[j] ∈ z.stk := by rw [hst9]; exact List.mem_append_right _ (List.getElem_mem hjl)
  have hjn : (v :: t)[j] < p.next.length := hr.lp.inv.vis _ ((hr.lp.inv.mem _).1 hjs).1
  have hjd : (v :: t)[j] < dn9.length := by omega
  refine T.skip (T.s (T.block (T.s (T.rg (TO.q (q_ix (i := j) underlying23 inf3 rfl rfl (rowO (mG 0 rfl)) (by omega)) (TO.q (q_ld underlying3 rfl rfl (rowO (mG 0 rfl)) (show (ints (intY (v :: t)))[j]? = some (vI (((v :: t)[j] : Nat) : Int)) by rw [ints_intY]; exact nats_get hjl)) (TO.qa rfl (TO.nl (T.rg (TO.q (q_lb 10 underlying81 rfl rfl rfl rfl) (TO.qm rfl (TO.q (q_ix (i := ((v :: t)[j])) underlying81 inf4 rfl rfl (rowO (mG 16 rfl)) hjn (by rw [List.length_map]; exact hjd)) (TO.l rfl (l_st (j := ((v :: t)[j])) (v := .bool true) (vs := [(.bool true)]) (cs := bools dn9) 16 inf4 rfl rfl rfl rfl rfl (by simp) rfl (by first | (simp; omega) | (simp_all; omega)) ?_))))))))))))))
  refine TO.sub (O' := ([rowI pb9 pc9 3 1 (ints (intY (v :: t))), oI z1 3 [(vI ((v : Nat) : Int))], oI z5 4 [(.bool (selfB p.d v p.next[v].length))], oI xc 3 [(vI ((z.clk : Nat) : Int))], oI xi 23 [(.slice ib p.next.length ic)], oI xl 23 [(.slice lb p.next.length lc)], oI xs 23 [(.slice zb s.stk.length zc)], oI xg 76 [(vI ((p.next.length : Nat) : Int)), (.func (.func 77) #[] #[(.pointer (aD gx))])], oI xa 69 [fal], oI xv 103 [(.func (.func 79) #[] #[(.pointer (aD xc)), (.pointer (aD xi)), (.pointer (aD xl)), (.pointer (aD xs)), (.pointer (aD xg)), (.pointer (aD xa)), (.pointer (aD xv)), (.pointer (aD xd)), (.pointer (aD xo))])], oI xd 81 [(.slice db p.next.length dc)], oI xo 22 [(.slice zab zps.length zac)], oI gx 25 (pC p k), rowI ib ic 3 1 (nats z.idx), rowI lb lc 3 1 (nats z.low), rowI zb zc 3 1 (nats s.stk), rowI db dc 4 1 (bools (dn9.set (v :: t)[j] true)), rowI zab zac 23 1 (vals zps)] ++ (itms 3 zps ++ OO))) (by rw [show putL (bools dn9) ((v :: t)[j]) [(.bool true)] = bools (dn9.set (v :: t)[j] true) from (by simp [putL])]; exact Sub.of (List.Sublist.refl _)) ?_
  refine TO.nl (T.rg (TO.q (q_addN (a := j) (b := 1) rfl rfl (by omega)) (TO.qm rfl (TO.nl ?_))))
  exact ⟨j + 1, by omega, ([rowI pb9 pc9 3 1 (ints (intY (v :: t))), oI z1 3 [(vI ((v : Nat) : Int))], oI z5 4 [(.bool (selfB p.d v p.next[v].length))], oI xc 3 [(vI ((z.clk : Nat) : Int))], oI xi 23 [(.slice ib p.next.length ic)], oI xl 23 [(.slice lb p.next.length lc)], oI xs 23 [(.slice zb s.stk.length zc)], oI xg 76 [(vI ((p.next.length : Nat) : Int)), (.func (.func 77) #[] #[(.pointer (aD gx))])], oI xa 69 [fal], oI xv 103 [(.func (.func 79) #[] #[(.pointer (aD xc)), (.pointer (aD xi)), (.pointer (aD xl)), (.pointer (aD xs)), (.pointer (aD xg)), (.pointer (aD xa)), (.pointer (aD xv)), (.pointer (aD xd)), (.pointer (aD xo))])], oI xd 81 [(.slice db p.next.length dc)], oI xo 22 [(.slice zab zps.length zac)], oI gx 25 (pC p k), rowI ib ic 3 1 (nats z.idx), rowI lb lc 3 1 (nats z.low), rowI zb zc 3 1 (nats s.stk), rowI db dc 4 1 (bools (dn9.set (v :: t)[j] true)), rowI zab zac 23 1 (vals zps)] ++ (itms 3 zps ++ OO)), (by exact Sub.rf), dn9.set (v :: t)[j] true, rfl, by omega, by simp [hdl], dn_step hdl hjl hjn hdn, (.of rfl)⟩
 have hge108 : ¬ j < (intY (v :: t)).length := by omega
 refine T.exit ?_
 refine T.s (T.rg (TO.q (q_lb 2 underlying4 rfl rfl rfl rfl) ?_))
 by_cases h116 : (selfB p.d v p.next[v].length = true)
 ·refine TO.q (QT.toB (q_move rfl) (h116)) ?_
  refine TO.pd rfl rfl (TO.pd rfl rfl (TO.pd rfl rfl (TO.q (q_pick1 rfl rfl) (TO.nl ?_))))
  refine T.cond1 rfl ?_
  refine T.rg (TO.q (q_lb 11 underlying22 rfl rfl rfl rfl) (TO.qm rfl (TO.l rfl (l_build1 (v := (.slice pb9 ((intY (v :: t)).length) pc9)) underlying22 inf23 rfl rfl rfl (fun z6 => ?_)))))
  refine TO.l rfl (l_append 18 underlying22 underlying22 inf23 rfl rfl rfl rfl (by simp) (by decide) (Src.row (j := 0) rfl (by simp)) (by simp [oneB]) (by omega) (by decide) (by decide) (fun z7 zc8 => ?_))
  refine TO.l rfl (l_sb (v := (.slice z7 (zps.length + 1) zc8)) (vs := [(.slice z7 (zps.length + 1) zc8)]) 12 inf22 rfl rfl rfl rfl rfl rfl (by simp [putL]) ?_)
  refine TO.nl (Res.drop ?_)
  refine Res.zero Tryd.results79 ?_
  have hjl9 : j = (v :: t).length := by omega
  rw [hjl9, List.take_length] at hdn
  have hb9 : true = true ↔ EA p.d al v v ∨ 1 < (v :: t).length := by
   rw [← self_iff (show v < p.d.next.length from hvn) hav, ← hrl, ← hpl9]
   exact ⟨fun _ => by first | exact .inl h116 | exact .inr (by omega), fun _ => rfl⟩
  refine ⟨[oI xc 3 [(vI ((z.clk : Nat) : Int))], oI xi 23 [(.slice ib p.next.length ic)], oI xl 23 [(.slice lb p.next.length lc)], oI xs 23 [(.slice zb s.stk.length zc)], oI xg 76 [(vI ((p.next.length : Nat) : Int)), (.func (.func 77) #[] #[(.pointer (aD gx))])], oI xa 69 [fal], oI xv 103 [(.func (.func 79) #[] #[(.pointer (aD xc)), (.pointer (aD xi)), (.pointer (aD xl)), (.pointer (aD xs)), (.pointer (aD xg)), (.pointer (aD xa)), (.pointer (aD xv)), (.pointer (aD xd)), (.pointer (aD xo))])], oI xd 81 [(.slice db p.next.length dc)], oI xo 22 [(.slice z7 (zps.length + 1) zc8)], oI gx 25 (pC p k), rowI ib ic 3 1 (nats z.idx), rowI lb lc 3 1 (nats z.low), rowI zb zc 3 1 (nats s.stk), rowI db dc 4 1 (bools dn9), rowI z7 zc8 23 1 (vals (zps ++ [⟨pb9, pc9, intY (v :: t)⟩]))] ++ (itms 3 (zps ++ [⟨pb9, pc9, intY (v :: t)⟩]) ++ OO), ?_, { z with dn := dn9, stk := s.stk, cnt := z.cnt + 1, comp := fun y => if y ∈ v :: t then (z.cnt : Int) else z.comp y, all := if true = true then z.all ++ [v :: t] else z.all }, zb, zc, z7, zc8, (zps ++ [⟨pb9, pc9, intY (v :: t)⟩]), [], (by have hl9 : (zps ++ [(⟨pb9, pc9, intY (v :: t)⟩ : Rec)]).length = zps.length + 1 := List.length_append; unfold carO; rw [hl9]; first | done | rfl), by show nums (zps ++ [⟨pb9, pc9, intY (v :: t)⟩]) = (z.all ++ [v :: t]).map intY; simp [hzp], hr.pop h0 hok rfl heq9 hdl hdn hb9⟩
  show Sub _ ([rowI (aD z6) 1 23 1 [(.slice pb9 ((intY (v :: t)).length) pc9)], Rec.itm 3 ⟨pb9, pc9, intY (v :: t)⟩, oI z1 3 [(vI ((v : Nat) : Int))], oI z5 4 [(.bool (selfB p.d v p.next[v].length))], oI xc 3 [(vI ((z.clk : Nat) : Int))], oI xi 23 [(.slice ib p.next.length ic)], oI xl 23 [(.slice lb p.next.length lc)], oI xs 23 [(.slice zb s.stk.length zc)], oI xg 76 [(vI ((p.next.length : Nat) : Int)), (.func (.func 77) #[] #[(.pointer (aD gx))])], oI xa 69 [fal], oI xv 103 [(.func (.func 79) #[] #[(.pointer (aD xc)), (.pointer (aD xi)), (.pointer (aD xl)), (.pointer (aD xs)), (.pointer (aD xg)), (.pointer (aD xa)), (.pointer (aD xv)), (.pointer (aD xd)), (.pointer (aD xo))])], oI xd 81 [(.slice db p.next.length dc)], oI xo 22 [(.slice z7 (zps.length + 1) zc8)], oI gx 25 (pC p k), rowI ib ic 3 1 (nats z.idx), rowI lb lc 3 1 (nats z.low), rowI zb zc 3 1 (nats s.stk), rowI db dc 4 1 (bools dn9), rowI z7 zc8 23 1 ((vals zps) ++ [(.slice pb9 ((intY (v :: t)).length) pc9)])] ++ (itms 3 zps ++ OO))
  rw [show vals (zps ++ [⟨pb9, pc9, intY (v :: t)⟩]) = vals zps ++ [Value.slice pb9 (intY (v :: t)).length pc9] by simp [Rec.val]]
  exact Sub.push9 (L' := [oI xc 3 [(vI ((z.clk : Nat) : Int))], oI xi 23 [(.slice ib p.next.length ic)], oI xl 23 [(.slice lb p.next.length lc)], oI xs 23 [(.slice zb s.stk.length zc)], oI xg 76 [(vI ((p.next.length : Nat) : Int)), (.func (.func 77) #[] #[(.pointer (aD gx))])], oI xa 69 [fal], oI xv 103 [(.func (.func 79) #[] #[(.pointer (aD xc)), (.pointer (aD xi)), (.pointer (aD xl)), (.pointer (aD xs)), (.pointer (aD xg)), (.pointer (aD xa)), (.pointer (aD xv)), (.pointer (aD xd)), (.pointer (aD xo))])], oI xd 81 [(.slice db p.next.length dc)], oI xo 22 [(.slice z7 (zps.length + 1) zc8)], oI gx 25 (pC p k), rowI ib ic 3 1 (nats z.idx), rowI lb lc 3 1 (nats z.low), rowI zb zc 3 1 (nats s.stk), rowI db dc 4 1 (bools dn9), rowI z7 zc8 23 1 ((vals zps ++ [Value.slice pb9 (intY (v :: t)).length pc9]))]) (L := [rowI (aD z6) 1 23 1 [(.slice pb9 ((intY (v :: t)).length) pc9)], Rec.itm 3 ⟨pb9, pc9, intY (v :: t)⟩, oI z1 3 [(vI ((v : Nat) : Int))], oI z5 4 [(.bool (selfB p.d v p.next[v].length))], oI xc 3 [(vI ((z.clk : Nat) : Int))], oI xi 23 [(.slice ib p.next.length ic)], oI xl 23 [(.slice lb p.next.length lc)], oI xs 23 [(.slice zb s.stk.length zc)], oI xg 76 [(vI ((p.next.length : Nat) : Int)), (.func (.func 77) #[] #[(.pointer (aD gx))])], oI xa 69 [fal], oI xv 103 [(.func (.func 79) #[] #[(.pointer (aD xc)), (.pointer (aD xi)), (.pointer (aD xl)), (.pointer (aD xs)), (.pointer (aD xg)), (.pointer (aD xa)), (.pointer (aD xv)), (.pointer (aD xd)), (.pointer (aD xo))])], oI xd 81 [(.slice db p.next.length dc)], oI xo 22 [(.slice z7 (zps.length + 1) zc8)], oI gx 25 (pC p k), rowI ib ic 3 1 (nats z.idx), rowI lb lc 3 1 (nats z.low), rowI zb zc 3 1 (nats s.stk), rowI db dc 4 1 (bools dn9), rowI z7 zc8 23 1 ((vals zps) ++ [(.slice pb9 ((intY (v :: t)).length) pc9)])]) (by exact Sub.d (.pull [Rec.itm 3 ⟨pb9, pc9, intY (v :: t)⟩, oI z1 3 [(vI ((v : Nat) : Int))], oI z5 4 [(.bool (selfB p.d v p.next[v].length))]] _ (.pull [Rec.itm 3 ⟨pb9, pc9, intY (v :: t)⟩, oI z1 3 [(vI ((v : Nat) : Int))], oI z5 4 [(.bool (selfB p.d v p.next[v].length))]] _ (.pull [Rec.itm 3 ⟨pb9, pc9, intY (v :: t)⟩, oI z1 3 [(vI ((v : Nat) : Int))], oI z5 4 [(.bool (selfB p.d v p.next[v].length))]] _ (.pull [Rec.itm 3 ⟨pb9, pc9, intY (v :: t)⟩, oI z1 3 [(vI ((v : Nat) : Int))], oI z5 4 [(.bool (selfB p.d v p.next[v].length))]] _ (.pull [Rec.itm 3 ⟨pb9, pc9, intY (v :: t)⟩, oI z1 3 [(vI ((v : Nat) : Int))], oI z5 4 [(.bool (selfB p.d v p.next[v].length))]] _ (.pull [Rec.itm 3 ⟨pb9, pc9, intY (v :: t)⟩, oI z1 3 [(vI ((v : Nat) : Int))], oI z5 4 [(.bool (selfB p.d v p.next[v].length))]] _ (.pull [Rec.itm 3 ⟨pb9, pc9, intY (v :: t)⟩, oI z1 3 [(vI ((v : Nat) : Int))], oI z5 4 [(.bool (selfB p.d v p.next[v].length))]] _ (.pull [Rec.itm 3 ⟨pb9, pc9, intY (v :: t)⟩, oI z1 3 [(vI ((v : Nat) : Int))], oI z5 4 [(.bool (selfB p.d v p.next[v].length))]] _ (.pull [Rec.itm 3 ⟨pb9, pc9, intY (v :: t)⟩, oI z1 3 [(vI ((v : Nat) : Int))], oI z5 4 [(.bool (selfB p.d v p.next[v].length))]] _ (.pull [Rec.itm 3 ⟨pb9, pc9, intY (v :: t)⟩, oI z1 3 [(vI ((v : Nat) : Int))], oI z5 4 [(.bool (selfB p.d v p.next[v].length))]] _ (.pull [Rec.itm 3 ⟨pb9, pc9, intY (v :: t)⟩, oI z1 3 [(vI ((v : Nat) : Int))], oI z5 4 [(.bool (selfB p.d v p.next[v].length))]] _ (.pull [Rec.itm 3 ⟨pb9, pc9, intY (v :: t)⟩, oI z1 3 [(vI ((v : Nat) : Int))], oI z5 4 [(.bool (selfB p.d v p.next[v].length))]] _ (.pull [Rec.itm 3 ⟨pb9, pc9, intY (v :: t)⟩, oI z1 3 [(vI ((v : Nat) : Int))], oI z5 4 [(.bool (selfB p.d v p.next[v].length))]] _ (.pull [Rec.itm 3 ⟨pb9, pc9, intY (v :: t)⟩, oI z1 3 [(vI ((v : Nat) : Int))], oI z5 4 [(.bool (selfB p.d v p.next[v].length))]] _ (.pull [Rec.itm 3 ⟨pb9, pc9, intY (v :: t)⟩, oI z1 3 [(vI ((v : Nat) : Int))], oI z5 4 [(.bool (selfB p.d v p.next[v].length))]] _ (.k .z)))))))))))))))))
 refine TO.q (QT.toB (q_move rfl) (Bool.eq_false_iff.2 h116)) (TO.gq rfl rfl (q_move rfl) (TO.gq rfl rfl (q_len underlying23 rfl) ?_))
 by_cases h119 : 1 < (((intY (v :: t)).length : Nat) : Int)
 ·refine TO.gq rfl rfl (QT.toB (q_gtr rfl rfl) (decide_eq_true h119)) ?_
  refine TO.q (q_pick0 rfl rfl) (TO.nl ?_)
  refine T.cond1 rfl ?_
  refine T.rg (TO.q (q_lb 11 underlying22 rfl rfl rfl rfl) (TO.qm rfl (TO.l rfl (l_build1 (v := (.slice pb9 ((intY (v :: t)).length) pc9)) underlying22 inf23 rfl rfl rfl (fun z9 => ?_)))))
  refine TO.l rfl (l_append 18 underlying22 underlying22 inf23 rfl rfl rfl rfl (by simp) (by decide) (Src.row (j := 0) rfl (by simp)) (by simp [oneB]) (by omega) (by decide) (by decide) (fun z10 zc11 => ?_))
  refine TO.l rfl (l_sb (v := (.slice z10 (zps.length + 1) zc11)) (vs := [(.slice z10 (zps.length + 1) zc11)]) 12 inf22 rfl rfl rfl rfl rfl rfl (by simp [putL]) ?_)
  refine TO.nl (Res.drop ?_)
  refine Res.zero Tryd.results79 ?_
  have hjl9 : j = (v :: t).length := by omega
  rw [hjl9, List.take_length] at hdn
  have hb9 : true = true ↔ EA p.d al v v ∨ 1 < (v :: t).length := by
   rw [← self_iff (show v < p.d.next.length from hvn) hav, ← hrl, ← hpl9]
   exact ⟨fun _ => by first | exact .inl h116 | exact .inr (by omega), fun _ => rfl⟩
  refine ⟨[oI xc 3 [(vI ((z.clk : Nat) : Int))], oI xi 23 [(.slice ib p.next.length ic)], oI xl 23 [(.slice lb p.next.length lc)], oI xs 23 [(.slice zb s.stk.length zc)], oI xg 76 [(vI ((p.next.length : Nat) : Int)), (.func (.func 77) #[] #[(.pointer (aD gx))])], oI xa 69 [fal], oI xv 103 [(.func (.func 79) #[] #[(.pointer (aD xc)), (.pointer (aD xi)), (.pointer (aD xl)), (.pointer (aD xs)), (.pointer (aD xg)), (.pointer (aD xa)), (.pointer (aD xv)), (.pointer (aD xd)), (.pointer (aD xo))])], oI xd 81 [(.slice db p.next.length dc)], oI xo 22 [(.slice z10 (zps.length + 1) zc11)], oI gx 25 (pC p k), rowI ib ic 3 1 (nats z.idx), rowI lb lc 3 1 (nats z.low), rowI zb zc 3 1 (nats s.stk), rowI db dc 4 1 (bools dn9), rowI z10 zc11 23 1 (vals (zps ++ [⟨pb9, pc9, intY (v :: t)⟩]))] ++ (itms 3 (zps ++ [⟨pb9, pc9, intY (v :: t)⟩]) ++ OO), ?_, { z with dn := dn9, stk := s.stk, cnt := z.cnt + 1, comp := fun y => if y ∈ v :: t then (z.cnt : Int) else z.comp y, all := if true = true then z.all ++ [v :: t] else z.all }, zb, zc, z10, zc11, (zps ++ [⟨pb9, pc9, intY (v :: t)⟩]), [], (by have hl9 : (zps ++ [(⟨pb9, pc9, intY (v :: t)⟩ : Rec)]).length = zps.length + 1 := List.length_append; unfold carO; rw [hl9]; first | done | rfl), by show nums (zps ++ [⟨pb9, pc9, intY (v :: t)⟩]) = (z.all ++ [v :: t]).map intY; simp [hzp], hr.pop h0 hok rfl heq9 hdl hdn hb9⟩
  show Sub _ ([rowI (aD z9) 1 23 1 [(.slice pb9 ((intY (v :: t)).length) pc9)], Rec.itm 3 ⟨pb9, pc9, intY (v :: t)⟩, oI z1 3 [(vI ((v : Nat) : Int))], oI z5 4 [(.bool (selfB p.d v p.next[v].length))], oI xc 3 [(vI ((z.clk : Nat) : Int))], oI xi 23 [(.slice ib p.next.length ic)], oI xl 23 [(.slice lb p.next.length lc)], oI xs 23 [(.slice zb s.stk.length zc)], oI xg 76 [(vI ((p.next.length : Nat) : Int)), (.func (.func 77) #[] #[(.pointer (aD gx))])], oI xa 69 [fal], oI xv 103 [(.func (.func 79) #[] #[(.pointer (aD xc)), (.pointer (aD xi)), (.pointer (aD xl)), (.pointer (aD xs)), (.pointer (aD xg)), (.pointer (aD xa)), (.pointer (aD xv)), (.pointer (aD xd)), (.pointer (aD xo))])], oI xd 81 [(.slice db p.next.length dc)], oI xo 22 [(.slice z10 (zps.length + 1) zc11)], oI gx 25 (pC p k), rowI ib ic 3 1 (nats z.idx), rowI lb lc 3 1 (nats z.low), rowI zb zc 3 1 (nats s.stk), rowI db dc 4 1 (bools dn9), rowI z10 zc11 23 1 ((vals zps) ++ [(.slice pb9 ((intY (v :: t)).length) pc9)])] ++ (itms 3 zps ++ OO))
  rw [show vals (zps ++ [⟨pb9, pc9, intY (v :: t)⟩]) = vals zps ++ [Value.slice pb9 (intY (v :: t)).length pc9] by simp [Rec.val]]
  exact Sub.push9 (L' := [oI xc 3 [(vI ((z.clk : Nat) : Int))], oI xi 23 [(.slice ib p.next.length ic)], oI xl 23 [(.slice lb p.next.length lc)], oI xs 23 [(.slice zb s.stk.length zc)], oI xg 76 [(vI ((p.next.length : Nat) : Int)), (.func (.func 77) #[] #[(.pointer (aD gx))])], oI xa 69 [fal], oI xv 103 [(.func (.func 79) #[] #[(.pointer (aD xc)), (.pointer (aD xi)), (.pointer (aD xl)), (.pointer (aD xs)), (.pointer (aD xg)), (.pointer (aD xa)), (.pointer (aD xv)), (.pointer (aD xd)), (.pointer (aD xo))])], oI xd 81 [(.slice db p.next.length dc)], oI xo 22 [(.slice z10 (zps.length + 1) zc11)], oI gx 25 (pC p k), rowI ib ic 3 1 (nats z.idx), rowI lb lc 3 1 (nats z.low), rowI zb zc 3 1 (nats s.stk), rowI db dc 4 1 (bools dn9), rowI z10 zc11 23 1 ((vals zps ++ [Value.slice pb9 (intY (v :: t)).length pc9]))]) (L := [rowI (aD z9) 1 23 1 [(.slice pb9 ((intY (v :: t)).length) pc9)], Rec.itm 3 ⟨pb9, pc9, intY (v :: t)⟩, oI z1 3 [(vI ((v : Nat) : Int))], oI z5 4 [(.bool (selfB p.d v p.next[v].length))], oI xc 3 [(vI ((z.clk : Nat) : Int))], oI xi 23 [(.slice ib p.next.length ic)], oI xl 23 [(.slice lb p.next.length lc)], oI xs 23 [(.slice zb s.stk.length zc)], oI xg 76 [(vI ((p.next.length : Nat) : Int)), (.func (.func 77) #[] #[(.pointer (aD gx))])], oI xa 69 [fal], oI xv 103 [(.func (.func 79) #[] #[(.pointer (aD xc)), (.pointer (aD xi)), (.pointer (aD xl)), (.pointer (aD xs)), (.pointer (aD xg)), (.pointer (aD xa)), (.pointer (aD xv)), (.pointer (aD xd)), (.pointer (aD xo))])], oI xd 81 [(.slice db p.next.length dc)], oI xo 22 [(.slice z10 (zps.length + 1) zc11)], oI gx 25 (pC p k), rowI ib ic 3 1 (nats z.idx), rowI lb lc 3 1 (nats z.low), rowI zb zc 3 1 (nats s.stk), rowI db dc 4 1 (bools dn9), rowI z10 zc11 23 1 ((vals zps) ++ [(.slice pb9 ((intY (v :: t)).length) pc9)])]) (by exact Sub.d (.pull [Rec.itm 3 ⟨pb9, pc9, intY (v :: t)⟩, oI z1 3 [(vI ((v : Nat) : Int))], oI z5 4 [(.bool (selfB p.d v p.next[v].length))]] _ (.pull [Rec.itm 3 ⟨pb9, pc9, intY (v :: t)⟩, oI z1 3 [(vI ((v : Nat) : Int))], oI z5 4 [(.bool (selfB p.d v p.next[v].length))]] _ (.pull [Rec.itm 3 ⟨pb9, pc9, intY (v :: t)⟩, oI z1 3 [(vI ((v : Nat) : Int))], oI z5 4 [(.bool (selfB p.d v p.next[v].length))]] _ (.pull [Rec.itm 3 ⟨pb9, pc9, intY (v :: t)⟩, oI z1 3 [(vI ((v : Nat) : Int))], oI z5 4 [(.bool (selfB p.d v p.next[v].length))]] _ (.pull [Rec.itm 3 ⟨pb9, pc9, intY (v :: t)⟩, oI z1 3 [(vI ((v : Nat) : Int))], oI z5 4 [(.bool (selfB p.d v p.next[v].length))]] _ (.pull [Rec.itm 3 ⟨pb9, pc9, intY (v :: t)⟩, oI z1 3 [(vI ((v : Nat) : Int))], oI z5 4 [(.bool (selfB p.d v p.next[v].length))]] _ (.pull [Rec.itm 3 ⟨pb9, pc9, intY (v :: t)⟩, oI z1 3 [(vI ((v : Nat) : Int))], oI z5 4 [(.bool (selfB p.d v p.next[v].length))]] _ (.pull [Rec.itm 3 ⟨pb9, pc9, intY (v :: t)⟩, oI z1 3 [(vI ((v : Nat) : Int))], oI z5 4 [(.bool (selfB p.d v p.next[v].length))]] _ (.pull [Rec.itm 3 ⟨pb9, pc9, intY (v :: t)⟩, oI z1 3 [(vI ((v : Nat) : Int))], oI z5 4 [(.bool (selfB p.d v p.next[v].length))]] _ (.pull [Rec.itm 3 ⟨pb9, pc9, intY (v :: t)⟩, oI z1 3 [(vI ((v : Nat) : Int))], oI z5 4 [(.bool (selfB p.d v p.next[v].length))]] _ (.pull [Rec.itm 3 ⟨pb9, pc9, intY (v :: t)⟩, oI z1 3 [(vI ((v : Nat) : Int))], oI z5 4 [(.bool (selfB p.d v p.next[v].length))]] _ (.pull [Rec.itm 3 ⟨pb9, pc9, intY (v :: t)⟩, oI z1 3 [(vI ((v : Nat) : Int))], oI z5 4 [(.bool (selfB p.d v p.next[v].length))]] _ (.pull [Rec.itm 3 ⟨pb9, pc9, intY (v :: t)⟩, oI z1 3 [(vI ((v : Nat) : Int))], oI z5 4 [(.bool (selfB p.d v p.next[v].length))]] _ (.pull [Rec.itm 3 ⟨pb9, pc9, intY (v :: t)⟩, oI z1 3 [(vI ((v : Nat) : Int))], oI z5 4 [(.bool (selfB p.d v p.next[v].length))]] _ (.pull [Rec.itm 3 ⟨pb9, pc9, intY (v :: t)⟩, oI z1 3 [(vI ((v : Nat) : Int))], oI z5 4 [(.bool (selfB p.d v p.next[v].length))]] _ (.k .z)))))))))))))))))
 refine TO.gq rfl rfl (QT.toB (q_gtr rfl rfl) (decide_eq_false h119)) (TO.q (q_pick0 rfl rfl) (TO.nl (T.cond0 rfl (T.skip (Res.drop ?_)))))
 refine Res.zero Tryd.results79 ?_
 have hjl9 : j = (v :: t).length := by omega
 rw [hjl9, List.take_length] at hdn
 have hb9 : false = true ↔ EA p.d al v v ∨ 1 < (v :: t).length := by
  rw [← self_iff (show v < p.d.next.length from hvn) hav, ← hrl, ← hpl9]
  exact ⟨fun g => absurd g (by decide), fun g => g.elim (fun g => absurd g h116) (fun g => absurd (show (1 : Int) < (((intY (v :: t)).length : Nat) : Int) by omega) h119)⟩
 refine ⟨[oI xc 3 [(vI ((z.clk : Nat) : Int))], oI xi 23 [(.slice ib p.next.length ic)], oI xl 23 [(.slice lb p.next.length lc)], oI xs 23 [(.slice zb s.stk.length zc)], oI xg 76 [(vI ((p.next.length : Nat) : Int)), (.func (.func 77) #[] #[(.pointer (aD gx))])], oI xa 69 [fal], oI xv 103 [(.func (.func 79) #[] #[(.pointer (aD xc)), (.pointer (aD xi)), (.pointer (aD xl)), (.pointer (aD xs)), (.pointer (aD xg)), (.pointer (aD xa)), (.pointer (aD xv)), (.pointer (aD xd)), (.pointer (aD xo))])], oI xd 81 [(.slice db p.next.length dc)], oI xo 22 [(.slice zab zps.length zac)], oI gx 25 (pC p k), rowI ib ic 3 1 (nats z.idx), rowI lb lc 3 1 (nats z.low), rowI zb zc 3 1 (nats s.stk), rowI db dc 4 1 (bools dn9), rowI zab zac 23 1 (vals zps)] ++ (itms 3 zps ++ OO), ?_, { z with dn := dn9, stk := s.stk, cnt := z.cnt + 1, comp := fun y => if y ∈ v :: t then (z.cnt : Int) else z.comp y, all := if false = true then z.all ++ [v :: t] else z.all }, zb, zc, zab, zac, zps, [], rfl, hzp, hr.pop h0 hok rfl heq9 hdl hdn hb9⟩
 show Sub _ ([rowI pb9 pc9 3 1 (ints (intY (v :: t))), oI z1 3 [(vI ((v : Nat) : Int))], oI z5 4 [(.bool (selfB p.d v p.next[v].length))], oI xc 3 [(vI ((z.clk : Nat) : Int))], oI xi 23 [(.slice ib p.next.length ic)], oI xl 23 [(.slice lb p.next.length lc)], oI xs 23 [(.slice zb s.stk.length zc)], oI xg 76 [(vI ((p.next.length : Nat) : Int)), (.func (.func 77) #[] #[(.pointer (aD gx))])], oI xa 69 [fal], oI xv 103 [(.func (.func 79) #[] #[(.pointer (aD xc)), (.pointer (aD xi)), (.pointer (aD xl)), (.pointer (aD xs)), (.pointer (aD xg)), (.pointer (aD xa)), (.pointer (aD xv)), (.pointer (aD xd)), (.pointer (aD xo))])], oI xd 81 [(.slice db p.next.length dc)], oI xo 22 [(.slice zab zps.length zac)], oI gx 25 (pC p k), rowI ib ic 3 1 (nats z.idx), rowI lb lc 3 1 (nats z.low), rowI zb zc 3 1 (nats s.stk), rowI db dc 4 1 (bools dn9), rowI zab zac 23 1 (vals zps)] ++ (itms 3 zps ++ OO))
 exact (by exact Sub.d (.d (.d (.k (.k (.k (.k (.k (.k (.k (.k (.k (.k (.k (.k (.k (.k (.k .rf))))))))))))))))))
end Go.Proofs.YtnikhiohindggaaDoor


namespace Go.Proofs.YtnikhiohindggaaDoor
open Go.Lx Go.RowKit _root_.Go.Proofs.Tryd
theorem componentsC (base : World) [Tab Tryd.prog base] (p : Par) (k : DK) (h : AtP base p k) (hv : Val p.d) (hn : p.next.length ≤ 4096) (hw : letN p.d ≤ 64) (hEl : ∀ u w, DE p.d u w → w < p.next.length) (OO : List Lx.Item) (al : Nat → Bool) (fal : Value) (hfc : fal.cells = #[fal]) (hal : ∀ u, u < p.next.length → CallV Tryd.prog base fal [vI ((u : Nat) : Int)] OO (fun v O' => v = .bool (decide (al u = true)) ∧ O' = OO)) (gx : Nat) :
  CallT Tryd.prog base 53 [(.agg #[vI ((p.next.length : Nat) : Int), (.func (.func 77) #[] #[(.pointer (aD gx))])]), fal] ([oI gx 25 (pC p k)] ++ OO) (fun v O' => ∃ all b c ps, v = .slice b (List.length ps) c ∧ O' = [rowI b c 23 1 (vals ps), oI gx 25 (pC p k)] ++ (OO ++ itms 3 ps) ∧ nums ps = List.map intY all ∧ PartsOk p.next.length (DE p.d) (fun u => al u = true) all) := by
 refine CallT.enter func53 rfl ntmps53 rfl ?_
 refine T.s (T.rg (TO.l rfl (l_box (v := (.agg #[vI ((p.next.length : Nat) : Int), (.func (.func 77) #[] #[(.pointer (aD gx))])])) (cs := [vI ((p.next.length : Nat) : Int), (.func (.func 77) #[] #[(.pointer (aD gx))])]) rfl rfl (fun bx1 => ?_))))
 refine TO.l rfl (l_box (v := fal) (cs := [fal]) rfl hfc (fun bx2 => ?_))
 refine TO.l rfl (l_alloc inf22 rfl (fun bx3 => ?_))
 refine TO.nl ?_
 refine T.cut (fun ρ O => ∃ (zA zB zC zD : Nat), O = ([oI zC 23 [(.slice (aD zA) p.next.length p.next.length)], oI zD 23 [(.slice (aD zB) p.next.length p.next.length)], rowI (aD zA) p.next.length 3 1 (List.replicate p.next.length (vI 0)), rowI (aD zB) p.next.length 3 1 (List.replicate p.next.length (vI 0)), oI bx3 22 [nS], oI bx2 69 [fal], oI bx1 76 [vI ((p.next.length : Nat) : Int), (.func (.func 77) #[] #[(.pointer (aD gx))])], oI gx 25 (pC p k)] ++ OO) ∧ Heads [(0, (.agg #[vI ((p.next.length : Nat) : Int), (.func (.func 77) #[] #[(.pointer (aD gx))])])), (1, fal), (2, (.pointer (aD bx1))), (3, (.pointer (aD bx2))), (4, (.pointer (aD bx3))), (5, (.pointer (aD zC))), (6, (.pointer (aD zD)))] ρ) ?_ ?_
 ·refine T.tree [oI bx1 76 [vI ((p.next.length : Nat) : Int), (.func (.func 77) #[] #[(.pointer (aD gx))])]] 10 mixed rfl (by exact Sub.d (.d (.k .z))) (fun _ _ _ h => h) ?_
  refine RO.quietT 0 rfl (by kernel_rfl) (q_fa underlying76 rfl inf3 rfl rfl) ?_
  refine RO.quietT 1 rfl (by kernel_rfl) (q_lb 0 underlying3 rfl rfl rfl rfl) ?_
  refine RO.quietT 3 rfl (by kernel_rfl) (q_fa underlying76 rfl inf3 rfl rfl) ?_
  refine RO.quietT 4 rfl (by kernel_rfl) (q_lb 0 underlying3 rfl rfl rfl rfl) ?_
  refine RO.fork [2, 5, 6, 7] (by kernel_rfl) rfl ⟨⟨_, rfl, rfl, l_makeSlice (m := p.next.length) underlying23 inf3 rfl rfl (by omega) (by omega) (fun zA => ⟨by exact Sub.d (.d (.d (.k .z))), ?_⟩)⟩, ⟨_, rfl, rfl, l_makeSlice (m := p.next.length) underlying23 inf3 rfl rfl (by omega) (by omega) (fun zB => ⟨by exact Sub.d (.d (.d (.k .z))), ?_⟩)⟩, ⟨_, rfl, rfl, l_alloc inf23 rfl (fun zC => ⟨by exact Sub.d (.d (.d (.k .z))), ?_⟩)⟩, ⟨_, rfl, rfl, l_alloc inf23 rfl (fun zD => ⟨by exact Sub.d (.d (.d (.k .z))), ?_⟩)⟩, trivial⟩
  ·refine RO.fork [5, 6, 7] (by kernel_rfl) rfl ⟨⟨_, rfl, rfl, l_makeSlice (m := p.next.length) underlying23 inf3 rfl rfl (by omega) (by omega) (fun zB => ⟨by exact Sub.d (.d (.d (.d (.k .z)))), ?_⟩)⟩, ⟨_, rfl, rfl, l_alloc inf23 rfl (fun zC => ⟨by exact Sub.d (.d (.d (.d (.k .z)))), ?_⟩)⟩, ⟨_, rfl, rfl, l_alloc inf23 rfl (fun zD => ⟨by exact Sub.d (.d (.d (.d (.k .z)))), ?_⟩)⟩, trivial⟩
   ·refine RO.fork [6, 7] (by kernel_rfl) rfl ⟨⟨_, rfl, rfl, l_alloc inf23 rfl (fun zC => ⟨by exact Sub.d (.d (.d (.d (.d (.k .z))))), ?_⟩)⟩, ⟨_, rfl, rfl, l_alloc inf23 rfl (fun zD => ⟨by exact Sub.d (.d (.d (.d (.d (.k .z))))), ?_⟩)⟩, trivial⟩
    ·refine RO.fork [7] (by kernel_rfl) rfl ⟨⟨_, rfl, rfl, l_alloc inf23 rfl (fun zD => ⟨by exact Sub.d (.d (.d (.d (.d (.d (.k .z)))))), ?_⟩)⟩, trivial⟩
     refine RO.fork [8] (by kernel_rfl) rfl ⟨⟨_, rfl, rfl, l_sb (v := (.slice (aD zA) p.next.length p.next.length)) (vs := [(.slice (aD zA) p.next.length p.next.length)]) 1 inf23 rfl rfl rfl rfl rfl rfl (by simp [putL]) ⟨by exact Sub.d (.d (.d (.d (.d (.d (.k .z)))))), ?_⟩⟩, trivial⟩
     refine RO.fork [9] (by kernel_rfl) rfl ⟨⟨_, rfl, rfl, l_sb (v := (.slice (aD zB) p.next.length p.next.length)) (vs := [(.slice (aD zB) p.next.length p.next.length)]) 0 inf23 rfl rfl rfl rfl rfl rfl (by simp [putL]) ⟨by exact Sub.d (.d (.d (.d (.d (.d (.k .z)))))), ?_⟩⟩, trivial⟩
     exact RO.fin (by kernel_rfl) ⟨zA, zB, zC, zD, rfl, (.of rfl)⟩ (by exact Sub.pull [oI zD 23 [(.slice (aD zB) p.next.length p.next.length)]] _ (.k (.pull [rowI (aD zB) p.next.length 3 1 (List.replicate p.next.length (vI 0))] _ (.k (.k (.k (.k (.k .rf))))))))
    refine RO.fork [6] (by kernel_rfl) rfl ⟨⟨_, rfl, rfl, l_alloc inf23 rfl (fun zC => ⟨by exact Sub.d (.d (.d (.d (.d (.d (.k .z)))))), ?_⟩)⟩, trivial⟩
    refine RO.fork [8] (by kernel_rfl) rfl ⟨⟨_, rfl, rfl, l_sb (v := (.slice (aD zA) p.next.length p.next.length)) (vs := [(.slice (aD zA) p.next.length p.next.length)]) 0 inf23 rfl rfl rfl rfl rfl rfl (by simp [putL]) ⟨by exact Sub.d (.d (.d (.d (.d (.d (.k .z)))))), ?_⟩⟩, trivial⟩
    refine RO.fork [9] (by kernel_rfl) rfl ⟨⟨_, rfl, rfl, l_sb (v := (.slice (aD zB) p.next.length p.next.length)) (vs := [(.slice (aD zB) p.next.length p.next.length)]) 1 inf23 rfl rfl rfl rfl rfl rfl (by simp [putL]) ⟨by exact Sub.d (.d (.d (.d (.d (.d (.k .z)))))), ?_⟩⟩, trivial⟩
    exact RO.fin (by kernel_rfl) ⟨zA, zB, zC, zD, rfl, (.of rfl)⟩ (by exact Sub.k (.k (.pull [rowI (aD zB) p.next.length 3 1 (List.replicate p.next.length (vI 0))] _ (.k (.k (.k (.k (.k .rf))))))))
   ·refine RO.fork [5, 7] (by kernel_rfl) rfl ⟨⟨_, rfl, rfl, l_makeSlice (m := p.next.length) underlying23 inf3 rfl rfl (by omega) (by omega) (fun zB => ⟨by exact Sub.d (.d (.d (.d (.d (.k .z))))), ?_⟩)⟩, ⟨_, rfl, rfl, l_alloc inf23 rfl (fun zD => ⟨by exact Sub.d (.d (.d (.d (.d (.k .z))))), ?_⟩)⟩, trivial⟩
    ·refine RO.fork [7] (by kernel_rfl) rfl ⟨⟨_, rfl, rfl, l_alloc inf23 rfl (fun zD => ⟨by exact Sub.d (.d (.d (.d (.d (.d (.k .z)))))), ?_⟩)⟩, trivial⟩
     refine RO.fork [8] (by kernel_rfl) rfl ⟨⟨_, rfl, rfl, l_sb (v := (.slice (aD zA) p.next.length p.next.length)) (vs := [(.slice (aD zA) p.next.length p.next.length)]) 2 inf23 rfl rfl rfl rfl rfl rfl (by simp [putL]) ⟨by exact Sub.d (.d (.d (.d (.d (.d (.k .z)))))), ?_⟩⟩, trivial⟩
     refine RO.fork [9] (by kernel_rfl) rfl ⟨⟨_, rfl, rfl, l_sb (v := (.slice (aD zB) p.next.length p.next.length)) (vs := [(.slice (aD zB) p.next.length p.next.length)]) 0 inf23 rfl rfl rfl rfl rfl rfl (by simp [putL]) ⟨by exact Sub.d (.d (.d (.d (.d (.d (.k .z)))))), ?_⟩⟩, trivial⟩
     exact RO.fin (by kernel_rfl) ⟨zA, zB, zC, zD, rfl, (.of rfl)⟩ (by exact Sub.pull [oI zD 23 [(.slice (aD zB) p.next.length p.next.length)], rowI (aD zB) p.next.length 3 1 (List.replicate p.next.length (vI 0))] _ (.k (.pull [rowI (aD zB) p.next.length 3 1 (List.replicate p.next.length (vI 0))] _ (.k (.k (.k (.k (.k .rf))))))))
    refine RO.fork [5, 8] (by kernel_rfl) rfl ⟨⟨_, rfl, rfl, l_makeSlice (m := p.next.length) underlying23 inf3 rfl rfl (by omega) (by omega) (fun zB => ⟨by exact Sub.d (.d (.d (.d (.d (.d (.k .z)))))), ?_⟩)⟩, ⟨_, rfl, rfl, l_sb (v := (.slice (aD zA) p.next.length p.next.length)) (vs := [(.slice (aD zA) p.next.length p.next.length)]) 1 inf23 rfl rfl rfl rfl rfl rfl (by simp [putL]) ⟨by exact Sub.d (.d (.d (.d (.d (.k .z))))), ?_⟩⟩, trivial⟩
    ·refine RO.fork [8] (by kernel_rfl) rfl ⟨⟨_, rfl, rfl, l_sb (v := (.slice (aD zA) p.next.length p.next.length)) (vs := [(.slice (aD zA) p.next.length p.next.length)]) 2 inf23 rfl rfl rfl rfl rfl rfl (by simp [putL]) ⟨by exact Sub.d (.d (.d (.d (.d (.d (.k .z)))))), ?_⟩⟩, trivial⟩
     refine RO.fork [9] (by kernel_rfl) rfl ⟨⟨_, rfl, rfl, l_sb (v := (.slice (aD zB) p.next.length p.next.length)) (vs := [(.slice (aD zB) p.next.length p.next.length)]) 1 inf23 rfl rfl rfl rfl rfl rfl (by simp [putL]) ⟨by exact Sub.d (.d (.d (.d (.d (.d (.k .z)))))), ?_⟩⟩, trivial⟩
     exact RO.fin (by kernel_rfl) ⟨zA, zB, zC, zD, rfl, (.of rfl)⟩ (by exact Sub.pull [rowI (aD zB) p.next.length 3 1 (List.replicate p.next.length (vI 0)), oI zD 23 [(.slice (aD zB) p.next.length p.next.length)]] _ (.pull [rowI (aD zB) p.next.length 3 1 (List.replicate p.next.length (vI 0))] _ (.pull [rowI (aD zB) p.next.length 3 1 (List.replicate p.next.length (vI 0))] _ (.k (.k (.k (.k (.k .rf))))))))
    refine RO.fork [5] (by kernel_rfl) rfl ⟨⟨_, rfl, rfl, l_makeSlice (m := p.next.length) underlying23 inf3 rfl rfl (by omega) (by omega) (fun zB => ⟨by exact Sub.d (.d (.d (.d (.d (.d (.k .z)))))), ?_⟩)⟩, trivial⟩
    refine RO.fork [9] (by kernel_rfl) rfl ⟨⟨_, rfl, rfl, l_sb (v := (.slice (aD zB) p.next.length p.next.length)) (vs := [(.slice (aD zB) p.next.length p.next.length)]) 1 inf23 rfl rfl rfl rfl rfl rfl (by simp [putL]) ⟨by exact Sub.d (.d (.d (.d (.d (.d (.k .z)))))), ?_⟩⟩, trivial⟩
    exact RO.fin (by kernel_rfl) ⟨zA, zB, zC, zD, rfl, (.of rfl)⟩ (by exact Sub.pull [rowI (aD zB) p.next.length 3 1 (List.replicate p.next.length (vI 0)), oI zD 23 [(.slice (aD zB) p.next.length p.next.length)]] _ (.pull [rowI (aD zB) p.next.length 3 1 (List.replicate p.next.length (vI 0))] _ (.pull [rowI (aD zB) p.next.length 3 1 (List.replicate p.next.length (vI 0))] _ (.k (.k (.k (.k (.k .rf))))))))
   refine RO.fork [5, 6] (by kernel_rfl) rfl ⟨⟨_, rfl, rfl, l_makeSlice (m := p.next.length) underlying23 inf3 rfl rfl (by omega) (by omega) (fun zB => ⟨by exact Sub.d (.d (.d (.d (.d (.k .z))))), ?_⟩)⟩, ⟨_, rfl, rfl, l_alloc inf23 rfl (fun zC => ⟨by exact Sub.d (.d (.d (.d (.d (.k .z))))), ?_⟩)⟩, trivial⟩
   ·refine RO.fork [6] (by kernel_rfl) rfl ⟨⟨_, rfl, rfl, l_alloc inf23 rfl (fun zC => ⟨by exact Sub.d (.d (.d (.d (.d (.d (.k .z)))))), ?_⟩)⟩, trivial⟩
    refine RO.fork [8] (by kernel_rfl) rfl ⟨⟨_, rfl, rfl, l_sb (v := (.slice (aD zA) p.next.length p.next.length)) (vs := [(.slice (aD zA) p.next.length p.next.length)]) 0 inf23 rfl rfl rfl rfl rfl rfl (by simp [putL]) ⟨by exact Sub.d (.d (.d (.d (.d (.d (.k .z)))))), ?_⟩⟩, trivial⟩
    refine RO.fork [9] (by kernel_rfl) rfl ⟨⟨_, rfl, rfl, l_sb (v := (.slice (aD zB) p.next.length p.next.length)) (vs := [(.slice (aD zB) p.next.length p.next.length)]) 2 inf23 rfl rfl rfl rfl rfl rfl (by simp [putL]) ⟨by exact Sub.d (.d (.d (.d (.d (.d (.k .z)))))), ?_⟩⟩, trivial⟩
    exact RO.fin (by kernel_rfl) ⟨zA, zB, zC, zD, rfl, (.of rfl)⟩ (by exact Sub.k (.pull [rowI (aD zB) p.next.length 3 1 (List.replicate p.next.length (vI 0))] _ (.pull [rowI (aD zB) p.next.length 3 1 (List.replicate p.next.length (vI 0))] _ (.k (.k (.k (.k (.k .rf))))))))
   refine RO.fork [5, 8] (by kernel_rfl) rfl ⟨⟨_, rfl, rfl, l_makeSlice (m := p.next.length) underlying23 inf3 rfl rfl (by omega) (by omega) (fun zB => ⟨by exact Sub.d (.d (.d (.d (.d (.d (.k .z)))))), ?_⟩)⟩, ⟨_, rfl, rfl, l_sb (v := (.slice (aD zA) p.next.length p.next.length)) (vs := [(.slice (aD zA) p.next.length p.next.length)]) 0 inf23 rfl rfl rfl rfl rfl rfl (by simp [putL]) ⟨by exact Sub.d (.d (.d (.d (.d (.k .z))))), ?_⟩⟩, trivial⟩
   ·refine RO.fork [8] (by kernel_rfl) rfl ⟨⟨_, rfl, rfl, l_sb (v := (.slice (aD zA) p.next.length p.next.length)) (vs := [(.slice (aD zA) p.next.length p.next.length)]) 1 inf23 rfl rfl rfl rfl rfl rfl (by simp [putL]) ⟨by exact Sub.d (.d (.d (.d (.d (.d (.k .z)))))), ?_⟩⟩, trivial⟩
    refine RO.fork [9] (by kernel_rfl) rfl ⟨⟨_, rfl, rfl, l_sb (v := (.slice (aD zB) p.next.length p.next.length)) (vs := [(.slice (aD zB) p.next.length p.next.length)]) 2 inf23 rfl rfl rfl rfl rfl rfl (by simp [putL]) ⟨by exact Sub.d (.d (.d (.d (.d (.d (.k .z)))))), ?_⟩⟩, trivial⟩
    exact RO.fin (by kernel_rfl) ⟨zA, zB, zC, zD, rfl, (.of rfl)⟩ (by exact Sub.pull [rowI (aD zB) p.next.length 3 1 (List.replicate p.next.length (vI 0))] _ (.pull [rowI (aD zB) p.next.length 3 1 (List.replicate p.next.length (vI 0))] _ (.pull [rowI (aD zB) p.next.length 3 1 (List.replicate p.next.length (vI 0))] _ (.k (.k (.k (.k (.k .rf))))))))
   refine RO.fork [5] (by kernel_rfl) rfl ⟨⟨_, rfl, rfl, l_makeSlice (m := p.next.length) underlying23 inf3 rfl rfl (by omega) (by omega) (fun zB => ⟨by exact Sub.d (.d (.d (.d (.d (.d (.k .z)))))), ?_⟩)⟩, trivial⟩
   refine RO.fork [9] (by kernel_rfl) rfl ⟨⟨_, rfl, rfl, l_sb (v := (.slice (aD zB) p.next.length p.next.length)) (vs := [(.slice (aD zB) p.next.length p.next.length)]) 2 inf23 rfl rfl rfl rfl rfl rfl (by simp [putL]) ⟨by exact Sub.d (.d (.d (.d (.d (.d (.k .z)))))), ?_⟩⟩, trivial⟩
   exact RO.fin (by kernel_rfl) ⟨zA, zB, zC, zD, rfl, (.of rfl)⟩ (by exact Sub.pull [rowI (aD zB) p.next.length 3 1 (List.replicate p.next.length (vI 0))] _ (.pull [rowI (aD zB) p.next.length 3 1 (List.replicate p.next.length (vI 0))] _ (.pull [rowI (aD zB) p.next.length 3 1 (List.replicate p.next.length (vI 0))] _ (.k (.k (.k (.k (.k .rf))))))))
  ·refine RO.fork [2, 6, 7] (by kernel_rfl) rfl ⟨⟨_, rfl, rfl, l_makeSlice (m := p.next.length) underlying23 inf3 rfl rfl (by omega) (by omega) (fun zA => ⟨by exact Sub.d (.d (.d (.d (.k .z)))), ?_⟩)⟩, ⟨_, rfl, rfl, l_alloc inf23 rfl (fun zC => ⟨by exact Sub.d (.d (.d (.d (.k .z)))), ?_⟩)⟩, ⟨_, rfl, rfl, l_alloc inf23 rfl (fun zD => ⟨by exact Sub.d (.d (.d (.d (.k .z)))), ?_⟩)⟩, trivial⟩
   ·refine RO.fork [6, 7] (by kernel_rfl) rfl ⟨⟨_, rfl, rfl, l_alloc inf23 rfl (fun zC => ⟨by exact Sub.d (.d (.d (.d (.d (.k .z))))), ?_⟩)⟩, ⟨_, rfl, rfl, l_alloc inf23 rfl (fun zD => ⟨by exact Sub.d (.d (.d (.d (.d (.k .z))))), ?_⟩)⟩, trivial⟩
    ·refine RO.fork [7] (by kernel_rfl) rfl ⟨⟨_, rfl, rfl, l_alloc inf23 rfl (fun zD => ⟨by exact Sub.d (.d (.d (.d (.d (.d (.k .z)))))), ?_⟩)⟩, trivial⟩
     refine RO.fork [8] (by kernel_rfl) rfl ⟨⟨_, rfl, rfl, l_sb (v := (.slice (aD zA) p.next.length p.next.length)) (vs := [(.slice (aD zA) p.next.length p.next.length)]) 1 inf23 rfl rfl rfl rfl rfl rfl (by simp [putL]) ⟨by exact Sub.d (.d (.d (.d (.d (.d (.k .z)))))), ?_⟩⟩, trivial⟩
     refine RO.fork [9] (by kernel_rfl) rfl ⟨⟨_, rfl, rfl, l_sb (v := (.slice (aD zB) p.next.length p.next.length)) (vs := [(.slice (aD zB) p.next.length p.next.length)]) 0 inf23 rfl rfl rfl rfl rfl rfl (by simp [putL]) ⟨by exact Sub.d (.d (.d (.d (.d (.d (.k .z)))))), ?_⟩⟩, trivial⟩
     exact RO.fin (by kernel_rfl) ⟨zA, zB, zC, zD, rfl, (.of rfl)⟩ (by exact Sub.pull [oI zD 23 [(.slice (aD zB) p.next.length p.next.length)]] _ (.k (.k (.k (.k (.k (.k (.k .rf))))))))
    refine RO.fork [6] (by kernel_rfl) rfl ⟨⟨_, rfl, rfl, l_alloc inf23 rfl (fun zC => ⟨by exact Sub.d (.d (.d (.d (.d (.d (.k .z)))))), ?_⟩)⟩, trivial⟩
    refine RO.fork [8] (by kernel_rfl) rfl ⟨⟨_, rfl, rfl, l_sb (v := (.slice (aD zA) p.next.length p.next.length)) (vs := [(.slice (aD zA) p.next.length p.next.length)]) 0 inf23 rfl rfl rfl rfl rfl rfl (by simp [putL]) ⟨by exact Sub.d (.d (.d (.d (.d (.d (.k .z)))))), ?_⟩⟩, trivial⟩
    refine RO.fork [9] (by kernel_rfl) rfl ⟨⟨_, rfl, rfl, l_sb (v := (.slice (aD zB) p.next.length p.next.length)) (vs := [(.slice (aD zB) p.next.length p.next.length)]) 1 inf23 rfl rfl rfl rfl rfl rfl (by simp [putL]) ⟨by exact Sub.d (.d (.d (.d (.d (.d (.k .z)))))), ?_⟩⟩, trivial⟩
    exact RO.fin (by kernel_rfl) ⟨zA, zB, zC, zD, rfl, (.of rfl)⟩ (by exact Sub.rf)
   ·refine RO.fork [2, 7] (by kernel_rfl) rfl ⟨⟨_, rfl, rfl, l_makeSlice (m := p.next.length) underlying23 inf3 rfl rfl (by omega) (by omega) (fun zA => ⟨by exact Sub.d (.d (.d (.d (.d (.k .z))))), ?_⟩)⟩, ⟨_, rfl, rfl, l_alloc inf23 rfl (fun zD => ⟨by exact Sub.d (.d (.d (.d (.d (.k .z))))), ?_⟩)⟩, trivial⟩
    ·refine RO.fork [7] (by kernel_rfl) rfl ⟨⟨_, rfl, rfl, l_alloc inf23 rfl (fun zD => ⟨by exact Sub.d (.d (.d (.d (.d (.d (.k .z)))))), ?_⟩)⟩, trivial⟩
     refine RO.fork [8] (by kernel_rfl) rfl ⟨⟨_, rfl, rfl, l_sb (v := (.slice (aD zA) p.next.length p.next.length)) (vs := [(.slice (aD zA) p.next.length p.next.length)]) 2 inf23 rfl rfl rfl rfl rfl rfl (by simp [putL]) ⟨by exact Sub.d (.d (.d (.d (.d (.d (.k .z)))))), ?_⟩⟩, trivial⟩
     refine RO.fork [9] (by kernel_rfl) rfl ⟨⟨_, rfl, rfl, l_sb (v := (.slice (aD zB) p.next.length p.next.length)) (vs := [(.slice (aD zB) p.next.length p.next.length)]) 0 inf23 rfl rfl rfl rfl rfl rfl (by simp [putL]) ⟨by exact Sub.d (.d (.d (.d (.d (.d (.k .z)))))), ?_⟩⟩, trivial⟩
     exact RO.fin (by kernel_rfl) ⟨zA, zB, zC, zD, rfl, (.of rfl)⟩ (by exact Sub.pull [oI zD 23 [(.slice (aD zB) p.next.length p.next.length)], rowI (aD zA) p.next.length 3 1 (List.replicate p.next.length (vI 0))] _ (.k (.k (.k (.k (.k (.k (.k .rf))))))))
    refine RO.fork [2] (by kernel_rfl) rfl ⟨⟨_, rfl, rfl, l_makeSlice (m := p.next.length) underlying23 inf3 rfl rfl (by omega) (by omega) (fun zA => ⟨by exact Sub.d (.d (.d (.d (.d (.d (.k .z)))))), ?_⟩)⟩, trivial⟩
    refine RO.fork [8] (by kernel_rfl) rfl ⟨⟨_, rfl, rfl, l_sb (v := (.slice (aD zA) p.next.length p.next.length)) (vs := [(.slice (aD zA) p.next.length p.next.length)]) 2 inf23 rfl rfl rfl rfl rfl rfl (by simp [putL]) ⟨by exact Sub.d (.d (.d (.d (.d (.d (.k .z)))))), ?_⟩⟩, trivial⟩
    refine RO.fork [9] (by kernel_rfl) rfl ⟨⟨_, rfl, rfl, l_sb (v := (.slice (aD zB) p.next.length p.next.length)) (vs := [(.slice (aD zB) p.next.length p.next.length)]) 1 inf23 rfl rfl rfl rfl rfl rfl (by simp [putL]) ⟨by exact Sub.d (.d (.d (.d (.d (.d (.k .z)))))), ?_⟩⟩, trivial⟩
    exact RO.fin (by kernel_rfl) ⟨zA, zB, zC, zD, rfl, (.of rfl)⟩ (by exact Sub.pull [rowI (aD zA) p.next.length 3 1 (List.replicate p.next.length (vI 0)), oI zD 23 [(.slice (aD zB) p.next.length p.next.length)]] _ (.pull [rowI (aD zA) p.next.length 3 1 (List.replicate p.next.length (vI 0))] _ (.k (.k (.k (.k (.k (.k .rf))))))))
   refine RO.fork [2, 6] (by kernel_rfl) rfl ⟨⟨_, rfl, rfl, l_makeSlice (m := p.next.length) underlying23 inf3 rfl rfl (by omega) (by omega) (fun zA => ⟨by exact Sub.d (.d (.d (.d (.d (.k .z))))), ?_⟩)⟩, ⟨_, rfl, rfl, l_alloc inf23 rfl (fun zC => ⟨by exact Sub.d (.d (.d (.d (.d (.k .z))))), ?_⟩)⟩, trivial⟩
   ·refine RO.fork [6] (by kernel_rfl) rfl ⟨⟨_, rfl, rfl, l_alloc inf23 rfl (fun zC => ⟨by exact Sub.d (.d (.d (.d (.d (.d (.k .z)))))), ?_⟩)⟩, trivial⟩
    refine RO.fork [8] (by kernel_rfl) rfl ⟨⟨_, rfl, rfl, l_sb (v := (.slice (aD zA) p.next.length p.next.length)) (vs := [(.slice (aD zA) p.next.length p.next.length)]) 0 inf23 rfl rfl rfl rfl rfl rfl (by simp [putL]) ⟨by exact Sub.d (.d (.d (.d (.d (.d (.k .z)))))), ?_⟩⟩, trivial⟩
    refine RO.fork [9] (by kernel_rfl) rfl ⟨⟨_, rfl, rfl, l_sb (v := (.slice (aD zB) p.next.length p.next.length)) (vs := [(.slice (aD zB) p.next.length p.next.length)]) 2 inf23 rfl rfl rfl rfl rfl rfl (by simp [putL]) ⟨by exact Sub.d (.d (.d (.d (.d (.d (.k .z)))))), ?_⟩⟩, trivial⟩
    exact RO.fin (by kernel_rfl) ⟨zA, zB, zC, zD, rfl, (.of rfl)⟩ (by exact Sub.k (.pull [rowI (aD zA) p.next.length 3 1 (List.replicate p.next.length (vI 0))] _ (.k (.k (.k (.k (.k (.k .rf))))))))
   refine RO.fork [2] (by kernel_rfl) rfl ⟨⟨_, rfl, rfl, l_makeSlice (m := p.next.length) underlying23 inf3 rfl rfl (by omega) (by omega) (fun zA => ⟨by exact Sub.d (.d (.d (.d (.d (.d (.k .z)))))), ?_⟩)⟩, trivial⟩
   refine RO.fork [8] (by kernel_rfl) rfl ⟨⟨_, rfl, rfl, l_sb (v := (.slice (aD zA) p.next.length p.next.length)) (vs := [(.slice (aD zA) p.next.length p.next.length)]) 1 inf23 rfl rfl rfl rfl rfl rfl (by simp [putL]) ⟨by exact Sub.d (.d (.d (.d (.d (.d (.k .z)))))), ?_⟩⟩, trivial⟩
   refine RO.fork [9] (by kernel_rfl) rfl ⟨⟨_, rfl, rfl, l_sb (v := (.slice (aD zB) p.next.length p.next.length)) (vs := [(.slice (aD zB) p.next.length p.next.length)]) 2 inf23 rfl rfl rfl rfl rfl rfl (by simp [putL]) ⟨by exact Sub.d (.d (.d (.d (.d (.d (.k .z)))))), ?_⟩⟩, trivial⟩
   exact RO.fin (by kernel_rfl) ⟨zA, zB, zC, zD, rfl, (.of rfl)⟩ (by exact Sub.pull [rowI (aD zA) p.next.length 3 1 (List.replicate p.next.length (vI 0))] _ (.pull [rowI (aD zA) p.next.length 3 1 (List.replicate p.next.length (vI 0))] _ (.k (.k (.k (.k (.k (.k .rf))))))))
  ·refine RO.fork [2, 5, 7] (by kernel_rfl) rfl ⟨⟨_, rfl, rfl, l_makeSlice (m := p.next.length) underlying23 inf3 rfl rfl (by omega) (by omega) (fun zA => ⟨by exact Sub.d (.d (.d (.d (.k .z)))), ?_⟩)⟩, ⟨_, rfl, rfl, l_makeSlice (m := p.next.length) underlying23 inf3 rfl rfl (by omega) (by omega) (fun zB => ⟨by exact Sub.d (.d (.d (.d (.k .z)))), ?_⟩)⟩, ⟨_, rfl, rfl, l_alloc inf23 rfl (fun zD => ⟨by exact Sub.d (.d (.d (.d (.k .z)))), ?_⟩)⟩, trivial⟩
   ·refine RO.fork [5, 7] (by kernel_rfl) rfl ⟨⟨_, rfl, rfl, l_makeSlice (m := p.next.length) underlying23 inf3 rfl rfl (by omega) (by omega) (fun zB => ⟨by exact Sub.d (.d (.d (.d (.d (.k .z))))), ?_⟩)⟩, ⟨_, rfl, rfl, l_alloc inf23 rfl (fun zD => ⟨by exact Sub.d (.d (.d (.d (.d (.k .z))))), ?_⟩)⟩, trivial⟩
    ·refine RO.fork [7] (by kernel_rfl) rfl ⟨⟨_, rfl, rfl, l_alloc inf23 rfl (fun zD => ⟨by exact Sub.d (.d (.d (.d (.d (.d (.k .z)))))), ?_⟩)⟩, trivial⟩
     refine RO.fork [8] (by kernel_rfl) rfl ⟨⟨_, rfl, rfl, l_sb (v := (.slice (aD zA) p.next.length p.next.length)) (vs := [(.slice (aD zA) p.next.length p.next.length)]) 3 inf23 rfl rfl rfl rfl rfl rfl (by simp [putL]) ⟨by exact Sub.d (.d (.d (.d (.d (.d (.k .z)))))), ?_⟩⟩, trivial⟩
     refine RO.fork [9] (by kernel_rfl) rfl ⟨⟨_, rfl, rfl, l_sb (v := (.slice (aD zB) p.next.length p.next.length)) (vs := [(.slice (aD zB) p.next.length p.next.length)]) 0 inf23 rfl rfl rfl rfl rfl rfl (by simp [putL]) ⟨by exact Sub.d (.d (.d (.d (.d (.d (.k .z)))))), ?_⟩⟩, trivial⟩
     exact RO.fin (by kernel_rfl) ⟨zA, zB, zC, zD, rfl, (.of rfl)⟩ (by exact Sub.pull [oI zD 23 [(.slice (aD zB) p.next.length p.next.length)], rowI (aD zB) p.next.length 3 1 (List.replicate p.next.length (vI 0)), rowI (aD zA) p.next.length 3 1 (List.replicate p.next.length (vI 0))] _ (.k (.pull [rowI (aD zB) p.next.length 3 1 (List.replicate p.next.length (vI 0))] _ (.k (.k (.k (.k (.k .rf))))))))
    refine RO.fork [5, 8] (by kernel_rfl) rfl ⟨⟨_, rfl, rfl, l_makeSlice (m := p.next.length) underlying23 inf3 rfl rfl (by omega) (by omega) (fun zB => ⟨by exact Sub.d (.d (.d (.d (.d (.d (.k .z)))))), ?_⟩)⟩, ⟨_, rfl, rfl, l_sb (v := (.slice (aD zA) p.next.length p.next.length)) (vs := [(.slice (aD zA) p.next.length p.next.length)]) 2 inf23 rfl rfl rfl rfl rfl rfl (by simp [putL]) ⟨by exact Sub.d (.d (.d (.d (.d (.k .z))))), ?_⟩⟩, trivial⟩
    ·refine RO.fork [8] (by kernel_rfl) rfl ⟨⟨_, rfl, rfl, l_sb (v := (.slice (aD zA) p.next.length p.next.length)) (vs := [(.slice (aD zA) p.next.length p.next.length)]) 3 inf23 rfl rfl rfl rfl rfl rfl (by simp [putL]) ⟨by exact Sub.d (.d (.d (.d (.d (.d (.k .z)))))), ?_⟩⟩, trivial⟩
     refine RO.fork [9] (by kernel_rfl) rfl ⟨⟨_, rfl, rfl, l_sb (v := (.slice (aD zB) p.next.length p.next.length)) (vs := [(.slice (aD zB) p.next.length p.next.length)]) 1 inf23 rfl rfl rfl rfl rfl rfl (by simp [putL]) ⟨by exact Sub.d (.d (.d (.d (.d (.d (.k .z)))))), ?_⟩⟩, trivial⟩
     exact RO.fin (by kernel_rfl) ⟨zA, zB, zC, zD, rfl, (.of rfl)⟩ (by exact Sub.pull [rowI (aD zB) p.next.length 3 1 (List.replicate p.next.length (vI 0)), oI zD 23 [(.slice (aD zB) p.next.length p.next.length)], rowI (aD zA) p.next.length 3 1 (List.replicate p.next.length (vI 0))] _ (.pull [rowI (aD zB) p.next.length 3 1 (List.replicate p.next.length (vI 0))] _ (.pull [rowI (aD zB) p.next.length 3 1 (List.replicate p.next.length (vI 0))] _ (.k (.k (.k (.k (.k .rf))))))))
    refine RO.fork [5] (by kernel_rfl) rfl ⟨⟨_, rfl, rfl, l_makeSlice (m := p.next.length) underlying23 inf3 rfl rfl (by omega) (by omega) (fun zB => ⟨by exact Sub.d (.d (.d (.d (.d (.d (.k .z)))))), ?_⟩)⟩, trivial⟩
    refine RO.fork [9] (by kernel_rfl) rfl ⟨⟨_, rfl, rfl, l_sb (v := (.slice (aD zB) p.next.length p.next.length)) (vs := [(.slice (aD zB) p.next.length p.next.length)]) 1 inf23 rfl rfl rfl rfl rfl rfl (by simp [putL]) ⟨by exact Sub.d (.d (.d (.d (.d (.d (.k .z)))))), ?_⟩⟩, trivial⟩
    exact RO.fin (by kernel_rfl) ⟨zA, zB, zC, zD, rfl, (.of rfl)⟩ (by exact Sub.pull [rowI (aD zB) p.next.length 3 1 (List.replicate p.next.length (vI 0)), oI zD 23 [(.slice (aD zB) p.next.length p.next.length)], rowI (aD zA) p.next.length 3 1 (List.replicate p.next.length (vI 0))] _ (.pull [rowI (aD zB) p.next.length 3 1 (List.replicate p.next.length (vI 0))] _ (.pull [rowI (aD zB) p.next.length 3 1 (List.replicate p.next.length (vI 0))] _ (.k (.k (.k (.k (.k .rf))))))))
   ·refine RO.fork [2, 7] (by kernel_rfl) rfl ⟨⟨_, rfl, rfl, l_makeSlice (m := p.next.length) underlying23 inf3 rfl rfl (by omega) (by omega) (fun zA => ⟨by exact Sub.d (.d (.d (.d (.d (.k .z))))), ?_⟩)⟩, ⟨_, rfl, rfl, l_alloc inf23 rfl (fun zD => ⟨by exact Sub.d (.d (.d (.d (.d (.k .z))))), ?_⟩)⟩, trivial⟩
    ·refine RO.fork [7] (by kernel_rfl) rfl ⟨⟨_, rfl, rfl, l_alloc inf23 rfl (fun zD => ⟨by exact Sub.d (.d (.d (.d (.d (.d (.k .z)))))), ?_⟩)⟩, trivial⟩
     refine RO.fork [8] (by kernel_rfl) rfl ⟨⟨_, rfl, rfl, l_sb (v := (.slice (aD zA) p.next.length p.next.length)) (vs := [(.slice (aD zA) p.next.length p.next.length)]) 3 inf23 rfl rfl rfl rfl rfl rfl (by simp [putL]) ⟨by exact Sub.d (.d (.d (.d (.d (.d (.k .z)))))), ?_⟩⟩, trivial⟩
     refine RO.fork [9] (by kernel_rfl) rfl ⟨⟨_, rfl, rfl, l_sb (v := (.slice (aD zB) p.next.length p.next.length)) (vs := [(.slice (aD zB) p.next.length p.next.length)]) 0 inf23 rfl rfl rfl rfl rfl rfl (by simp [putL]) ⟨by exact Sub.d (.d (.d (.d (.d (.d (.k .z)))))), ?_⟩⟩, trivial⟩
     exact RO.fin (by kernel_rfl) ⟨zA, zB, zC, zD, rfl, (.of rfl)⟩ (by exact Sub.pull [oI zD 23 [(.slice (aD zB) p.next.length p.next.length)], rowI (aD zA) p.next.length 3 1 (List.replicate p.next.length (vI 0)), rowI (aD zB) p.next.length 3 1 (List.replicate p.next.length (vI 0))] _ (.k (.k (.k (.k (.k (.k (.k .rf))))))))
    refine RO.fork [2] (by kernel_rfl) rfl ⟨⟨_, rfl, rfl, l_makeSlice (m := p.next.length) underlying23 inf3 rfl rfl (by omega) (by omega) (fun zA => ⟨by exact Sub.d (.d (.d (.d (.d (.d (.k .z)))))), ?_⟩)⟩, trivial⟩
    refine RO.fork [8] (by kernel_rfl) rfl ⟨⟨_, rfl, rfl, l_sb (v := (.slice (aD zA) p.next.length p.next.length)) (vs := [(.slice (aD zA) p.next.length p.next.length)]) 3 inf23 rfl rfl rfl rfl rfl rfl (by simp [putL]) ⟨by exact Sub.d (.d (.d (.d (.d (.d (.k .z)))))), ?_⟩⟩, trivial⟩
    refine RO.fork [9] (by kernel_rfl) rfl ⟨⟨_, rfl, rfl, l_sb (v := (.slice (aD zB) p.next.length p.next.length)) (vs := [(.slice (aD zB) p.next.length p.next.length)]) 1 inf23 rfl rfl rfl rfl rfl rfl (by simp [putL]) ⟨by exact Sub.d (.d (.d (.d (.d (.d (.k .z)))))), ?_⟩⟩, trivial⟩
    exact RO.fin (by kernel_rfl) ⟨zA, zB, zC, zD, rfl, (.of rfl)⟩ (by exact Sub.pull [rowI (aD zA) p.next.length 3 1 (List.replicate p.next.length (vI 0)), oI zD 23 [(.slice (aD zB) p.next.length p.next.length)], rowI (aD zB) p.next.length 3 1 (List.replicate p.next.length (vI 0))] _ (.pull [rowI (aD zA) p.next.length 3 1 (List.replicate p.next.length (vI 0))] _ (.k (.k (.k (.k (.k (.k .rf))))))))
   refine RO.fork [2, 5] (by kernel_rfl) rfl ⟨⟨_, rfl, rfl, l_makeSlice (m := p.next.length) underlying23 inf3 rfl rfl (by omega) (by omega) (fun zA => ⟨by exact Sub.d (.d (.d (.d (.d (.k .z))))), ?_⟩)⟩, ⟨_, rfl, rfl, l_makeSlice (m := p.next.length) underlying23 inf3 rfl rfl (by omega) (by omega) (fun zB => ⟨by exact Sub.d (.d (.d (.d (.d (.k .z))))), ?_⟩)⟩, trivial⟩
   ·refine RO.fork [5, 8] (by kernel_rfl) rfl ⟨⟨_, rfl, rfl, l_makeSlice (m := p.next.length) underlying23 inf3 rfl rfl (by omega) (by omega) (fun zB => ⟨by exact Sub.d (.d (.d (.d (.d (.d (.k .z)))))), ?_⟩)⟩, ⟨_, rfl, rfl, l_sb (v := (.slice (aD zA) p.next.length p.next.length)) (vs := [(.slice (aD zA) p.next.length p.next.length)]) 2 inf23 rfl rfl rfl rfl rfl rfl (by simp [putL]) ⟨by exact Sub.d (.d (.d (.d (.d (.k .z))))), ?_⟩⟩, trivial⟩
    ·refine RO.fork [8] (by kernel_rfl) rfl ⟨⟨_, rfl, rfl, l_sb (v := (.slice (aD zA) p.next.length p.next.length)) (vs := [(.slice (aD zA) p.next.length p.next.length)]) 3 inf23 rfl rfl rfl rfl rfl rfl (by simp [putL]) ⟨by exact Sub.d (.d (.d (.d (.d (.d (.k .z)))))), ?_⟩⟩, trivial⟩
     refine RO.fork [9] (by kernel_rfl) rfl ⟨⟨_, rfl, rfl, l_sb (v := (.slice (aD zB) p.next.length p.next.length)) (vs := [(.slice (aD zB) p.next.length p.next.length)]) 2 inf23 rfl rfl rfl rfl rfl rfl (by simp [putL]) ⟨by exact Sub.d (.d (.d (.d (.d (.d (.k .z)))))), ?_⟩⟩, trivial⟩
     exact RO.fin (by kernel_rfl) ⟨zA, zB, zC, zD, rfl, (.of rfl)⟩ (by exact Sub.pull [rowI (aD zB) p.next.length 3 1 (List.replicate p.next.length (vI 0)), rowI (aD zA) p.next.length 3 1 (List.replicate p.next.length (vI 0)), oI zD 23 [(.slice (aD zB) p.next.length p.next.length)]] _ (.pull [rowI (aD zB) p.next.length 3 1 (List.replicate p.next.length (vI 0)), rowI (aD zA) p.next.length 3 1 (List.replicate p.next.length (vI 0))] _ (.pull [rowI (aD zB) p.next.length 3 1 (List.replicate p.next.length (vI 0))] _ (.k (.k (.k (.k (.k .rf))))))))
    refine RO.fork [5] (by kernel_rfl) rfl ⟨⟨_, rfl, rfl, l_makeSlice (m := p.next.length) underlying23 inf3 rfl rfl (by omega) (by omega) (fun zB => ⟨by exact Sub.d (.d (.d (.d (.d (.d (.k .z)))))), ?_⟩)⟩, trivial⟩
    refine RO.fork [9] (by kernel_rfl) rfl ⟨⟨_, rfl, rfl, l_sb (v := (.slice (aD zB) p.next.length p.next.length)) (vs := [(.slice (aD zB) p.next.length p.next.length)]) 2 inf23 rfl rfl rfl rfl rfl rfl (by simp [putL]) ⟨by exact Sub.d (.d (.d (.d (.d (.d (.k .z)))))), ?_⟩⟩, trivial⟩
    exact RO.fin (by kernel_rfl) ⟨zA, zB, zC, zD, rfl, (.of rfl)⟩ (by exact Sub.pull [rowI (aD zB) p.next.length 3 1 (List.replicate p.next.length (vI 0)), rowI (aD zA) p.next.length 3 1 (List.replicate p.next.length (vI 0)), oI zD 23 [(.slice (aD zB) p.next.length p.next.length)]] _ (.pull [rowI (aD zB) p.next.length 3 1 (List.replicate p.next.length (vI 0)), rowI (aD zA) p.next.length 3 1 (List.replicate p.next.length (vI 0))] _ (.pull [rowI (aD zB) p.next.length 3 1 (List.replicate p.next.length (vI 0))] _ (.k (.k (.k (.k (.k .rf))))))))
   refine RO.fork [2] (by kernel_rfl) rfl ⟨⟨_, rfl, rfl, l_makeSlice (m := p.next.length) underlying23 inf3 rfl rfl (by omega) (by omega) (fun zA => ⟨by exact Sub.d (.d (.d (.d (.d (.d (.k .z)))))), ?_⟩)⟩, trivial⟩
   refine RO.fork [8] (by kernel_rfl) rfl ⟨⟨_, rfl, rfl, l_sb (v := (.slice (aD zA) p.next.length p.next.length)) (vs := [(.slice (aD zA) p.next.length p.next.length)]) 3 inf23 rfl rfl rfl rfl rfl rfl (by simp [putL]) ⟨by exact Sub.d (.d (.d (.d (.d (.d (.k .z)))))), ?_⟩⟩, trivial⟩
   refine RO.fork [9] (by kernel_rfl) rfl ⟨⟨_, rfl, rfl, l_sb (v := (.slice (aD zB) p.next.length p.next.length)) (vs := [(.slice (aD zB) p.next.length p.next.length)]) 2 inf23 rfl rfl rfl rfl rfl rfl (by simp [putL]) ⟨by exact Sub.d (.d (.d (.d (.d (.d (.k .z)))))), ?_⟩⟩, trivial⟩
   exact RO.fin (by kernel_rfl) ⟨zA, zB, zC, zD, rfl, (.of rfl)⟩ (by exact Sub.pull [rowI (aD zA) p.next.length 3 1 (List.replicate p.next.length (vI 0)), rowI (aD zB) p.next.length 3 1 (List.replicate p.next.length (vI 0)), oI zD 23 [(.slice (aD zB) p.next.length p.next.length)]] _ (.pull [rowI (aD zA) p.next.length 3 1 (List.replicate p.next.length (vI 0)), rowI (aD zB) p.next.length 3 1 (List.replicate p.next.length (vI 0))] _ (.k (.k (.k (.k (.k (.k .rf))))))))
  refine RO.fork [2, 5, 6] (by kernel_rfl) rfl ⟨⟨_, rfl, rfl, l_makeSlice (m := p.next.length) underlying23 inf3 rfl rfl (by omega) (by omega) (fun zA => ⟨by exact Sub.d (.d (.d (.d (.k .z)))), ?_⟩)⟩, ⟨_, rfl, rfl, l_makeSlice (m := p.next.length) underlying23 inf3 rfl rfl (by omega) (by omega) (fun zB => ⟨by exact Sub.d (.d (.d (.d (.k .z)))), ?_⟩)⟩, ⟨_, rfl, rfl, l_alloc inf23 rfl (fun zC => ⟨by exact Sub.d (.d (.d (.d (.k .z)))), ?_⟩)⟩, trivial⟩
  ·refine RO.fork [5, 6] (by kernel_rfl) rfl ⟨⟨_, rfl, rfl, l_makeSlice (m := p.next.length) underlying23 inf3 rfl rfl (by omega) (by omega) (fun zB => ⟨by exact Sub.d (.d (.d (.d (.d (.k .z))))), ?_⟩)⟩, ⟨_, rfl, rfl, l_alloc inf23 rfl (fun zC => ⟨by exact Sub.d (.d (.d (.d (.d (.k .z))))), ?_⟩)⟩, trivial⟩
   ·refine RO.fork [6] (by kernel_rfl) rfl ⟨⟨_, rfl, rfl, l_alloc inf23 rfl (fun zC => ⟨by exact Sub.d (.d (.d (.d (.d (.d (.k .z)))))), ?_⟩)⟩, trivial⟩
    refine RO.fork [8] (by kernel_rfl) rfl ⟨⟨_, rfl, rfl, l_sb (v := (.slice (aD zA) p.next.length p.next.length)) (vs := [(.slice (aD zA) p.next.length p.next.length)]) 0 inf23 rfl rfl rfl rfl rfl rfl (by simp [putL]) ⟨by exact Sub.d (.d (.d (.d (.d (.d (.k .z)))))), ?_⟩⟩, trivial⟩
    refine RO.fork [9] (by kernel_rfl) rfl ⟨⟨_, rfl, rfl, l_sb (v := (.slice (aD zB) p.next.length p.next.length)) (vs := [(.slice (aD zB) p.next.length p.next.length)]) 3 inf23 rfl rfl rfl rfl rfl rfl (by simp [putL]) ⟨by exact Sub.d (.d (.d (.d (.d (.d (.k .z)))))), ?_⟩⟩, trivial⟩
    exact RO.fin (by kernel_rfl) ⟨zA, zB, zC, zD, rfl, (.of rfl)⟩ (by exact Sub.k (.pull [rowI (aD zB) p.next.length 3 1 (List.replicate p.next.length (vI 0)), rowI (aD zA) p.next.length 3 1 (List.replicate p.next.length (vI 0))] _ (.pull [rowI (aD zB) p.next.length 3 1 (List.replicate p.next.length (vI 0))] _ (.k (.k (.k (.k (.k .rf))))))))
   refine RO.fork [5, 8] (by kernel_rfl) rfl ⟨⟨_, rfl, rfl, l_makeSlice (m := p.next.length) underlying23 inf3 rfl rfl (by omega) (by omega) (fun zB => ⟨by exact Sub.d (.d (.d (.d (.d (.d (.k .z)))))), ?_⟩)⟩, ⟨_, rfl, rfl, l_sb (v := (.slice (aD zA) p.next.length p.next.length)) (vs := [(.slice (aD zA) p.next.length p.next.length)]) 0 inf23 rfl rfl rfl rfl rfl rfl (by simp [putL]) ⟨by exact Sub.d (.d (.d (.d (.d (.k .z))))), ?_⟩⟩, trivial⟩
   ·refine RO.fork [8] (by kernel_rfl) rfl ⟨⟨_, rfl, rfl, l_sb (v := (.slice (aD zA) p.next.length p.next.length)) (vs := [(.slice (aD zA) p.next.length p.next.length)]) 1 inf23 rfl rfl rfl rfl rfl rfl (by simp [putL]) ⟨by exact Sub.d (.d (.d (.d (.d (.d (.k .z)))))), ?_⟩⟩, trivial⟩
    refine RO.fork [9] (by kernel_rfl) rfl ⟨⟨_, rfl, rfl, l_sb (v := (.slice (aD zB) p.next.length p.next.length)) (vs := [(.slice (aD zB) p.next.length p.next.length)]) 3 inf23 rfl rfl rfl rfl rfl rfl (by simp [putL]) ⟨by exact Sub.d (.d (.d (.d (.d (.d (.k .z)))))), ?_⟩⟩, trivial⟩
    exact RO.fin (by kernel_rfl) ⟨zA, zB, zC, zD, rfl, (.of rfl)⟩ (by exact Sub.pull [rowI (aD zB) p.next.length 3 1 (List.replicate p.next.length (vI 0))] _ (.pull [rowI (aD zB) p.next.length 3 1 (List.replicate p.next.length (vI 0)), rowI (aD zA) p.next.length 3 1 (List.replicate p.next.length (vI 0))] _ (.pull [rowI (aD zB) p.next.length 3 1 (List.replicate p.next.length (vI 0))] _ (.k (.k (.k (.k (.k .rf))))))))
   refine RO.fork [5] (by kernel_rfl) rfl ⟨⟨_, rfl, rfl, l_makeSlice (m := p.next.length) underlying23 inf3 rfl rfl (by omega) (by omega) (fun zB => ⟨by exact Sub.d (.d (.d (.d (.d (.d (.k .z)))))), ?_⟩)⟩, trivial⟩
   refine RO.fork [9] (by kernel_rfl) rfl ⟨⟨_, rfl, rfl, l_sb (v := (.slice (aD zB) p.next.length p.next.length)) (vs := [(.slice (aD zB) p.next.length p.next.length)]) 3 inf23 rfl rfl rfl rfl rfl rfl (by simp [putL]) ⟨by exact Sub.d (.d (.d (.d (.d (.d (.k .z)))))), ?_⟩⟩, trivial⟩
   exact RO.fin (by kernel_rfl) ⟨zA, zB, zC, zD, rfl, (.of rfl)⟩ (by exact Sub.pull [rowI (aD zB) p.next.length 3 1 (List.replicate p.next.length (vI 0))] _ (.pull [rowI (aD zB) p.next.length 3 1 (List.replicate p.next.length (vI 0)), rowI (aD zA) p.next.length 3 1 (List.replicate p.next.length (vI 0))] _ (.pull [rowI (aD zB) p.next.length 3 1 (List.replicate p.next.length (vI 0))] _ (.k (.k (.k (.k (.k .rf))))))))
  ·refine RO.fork [2, 6] (by kernel_rfl) rfl ⟨⟨_, rfl, rfl, l_makeSlice (m := p.next.length) underlying23 inf3 rfl rfl (by omega) (by omega) (fun zA => ⟨by exact Sub.d (.d (.d (.d (.d (.k .z))))), ?_⟩)⟩, ⟨_, rfl, rfl, l_alloc inf23 rfl (fun zC => ⟨by exact Sub.d (.d (.d (.d (.d (.k .z))))), ?_⟩)⟩, trivial⟩
   ·refine RO.fork [6] (by kernel_rfl) rfl ⟨⟨_, rfl, rfl, l_alloc inf23 rfl (fun zC => ⟨by exact Sub.d (.d (.d (.d (.d (.d (.k .z)))))), ?_⟩)⟩, trivial⟩
    refine RO.fork [8] (by kernel_rfl) rfl ⟨⟨_, rfl, rfl, l_sb (v := (.slice (aD zA) p.next.length p.next.length)) (vs := [(.slice (aD zA) p.next.length p.next.length)]) 0 inf23 rfl rfl rfl rfl rfl rfl (by simp [putL]) ⟨by exact Sub.d (.d (.d (.d (.d (.d (.k .z)))))), ?_⟩⟩, trivial⟩
    refine RO.fork [9] (by kernel_rfl) rfl ⟨⟨_, rfl, rfl, l_sb (v := (.slice (aD zB) p.next.length p.next.length)) (vs := [(.slice (aD zB) p.next.length p.next.length)]) 3 inf23 rfl rfl rfl rfl rfl rfl (by simp [putL]) ⟨by exact Sub.d (.d (.d (.d (.d (.d (.k .z)))))), ?_⟩⟩, trivial⟩
    exact RO.fin (by kernel_rfl) ⟨zA, zB, zC, zD, rfl, (.of rfl)⟩ (by exact Sub.k (.pull [rowI (aD zA) p.next.length 3 1 (List.replicate p.next.length (vI 0)), rowI (aD zB) p.next.length 3 1 (List.replicate p.next.length (vI 0))] _ (.k (.k (.k (.k (.k (.k .rf))))))))
   refine RO.fork [2] (by kernel_rfl) rfl ⟨⟨_, rfl, rfl, l_makeSlice (m := p.next.length) underlying23 inf3 rfl rfl (by omega) (by omega) (fun zA => ⟨by exact Sub.d (.d (.d (.d (.d (.d (.k .z)))))), ?_⟩)⟩, trivial⟩
   refine RO.fork [8] (by kernel_rfl) rfl ⟨⟨_, rfl, rfl, l_sb (v := (.slice (aD zA) p.next.length p.next.length)) (vs := [(.slice (aD zA) p.next.length p.next.length)]) 1 inf23 rfl rfl rfl rfl rfl rfl (by simp [putL]) ⟨by exact Sub.d (.d (.d (.d (.d (.d (.k .z)))))), ?_⟩⟩, trivial⟩
   refine RO.fork [9] (by kernel_rfl) rfl ⟨⟨_, rfl, rfl, l_sb (v := (.slice (aD zB) p.next.length p.next.length)) (vs := [(.slice (aD zB) p.next.length p.next.length)]) 3 inf23 rfl rfl rfl rfl rfl rfl (by simp [putL]) ⟨by exact Sub.d (.d (.d (.d (.d (.d (.k .z)))))), ?_⟩⟩, trivial⟩
   exact RO.fin (by kernel_rfl) ⟨zA, zB, zC, zD, rfl, (.of rfl)⟩ (by exact Sub.pull [rowI (aD zA) p.next.length 3 1 (List.replicate p.next.length (vI 0))] _ (.pull [rowI (aD zA) p.next.length 3 1 (List.replicate p.next.length (vI 0)), rowI (aD zB) p.next.length 3 1 (List.replicate p.next.length (vI 0))] _ (.k (.k (.k (.k (.k (.k .rf))))))))
  refine RO.fork [2, 5] (by kernel_rfl) rfl ⟨⟨_, rfl, rfl, l_makeSlice (m := p.next.length) underlying23 inf3 rfl rfl (by omega) (by omega) (fun zA => ⟨by exact Sub.d (.d (.d (.d (.d (.k .z))))), ?_⟩)⟩, ⟨_, rfl, rfl, l_makeSlice (m := p.next.length) underlying23 inf3 rfl rfl (by omega) (by omega) (fun zB => ⟨by exact Sub.d (.d (.d (.d (.d (.k .z))))), ?_⟩)⟩, trivial⟩
  ·refine RO.fork [5, 8] (by kernel_rfl) rfl ⟨⟨_, rfl, rfl, l_makeSlice (m := p.next.length) underlying23 inf3 rfl rfl (by omega) (by omega) (fun zB => ⟨by exact Sub.d (.d (.d (.d (.d (.d (.k .z)))))), ?_⟩)⟩, ⟨_, rfl, rfl, l_sb (v := (.slice (aD zA) p.next.length p.next.length)) (vs := [(.slice (aD zA) p.next.length p.next.length)]) 1 inf23 rfl rfl rfl rfl rfl rfl (by simp [putL]) ⟨by exact Sub.d (.d (.d (.d (.d (.k .z))))), ?_⟩⟩, trivial⟩
   ·refine RO.fork [8] (by kernel_rfl) rfl ⟨⟨_, rfl, rfl, l_sb (v := (.slice (aD zA) p.next.length p.next.length)) (vs := [(.slice (aD zA) p.next.length p.next.length)]) 2 inf23 rfl rfl rfl rfl rfl rfl (by simp [putL]) ⟨by exact Sub.d (.d (.d (.d (.d (.d (.k .z)))))), ?_⟩⟩, trivial⟩
    refine RO.fork [9] (by kernel_rfl) rfl ⟨⟨_, rfl, rfl, l_sb (v := (.slice (aD zB) p.next.length p.next.length)) (vs := [(.slice (aD zB) p.next.length p.next.length)]) 3 inf23 rfl rfl rfl rfl rfl rfl (by simp [putL]) ⟨by exact Sub.d (.d (.d (.d (.d (.d (.k .z)))))), ?_⟩⟩, trivial⟩
    exact RO.fin (by kernel_rfl) ⟨zA, zB, zC, zD, rfl, (.of rfl)⟩ (by exact Sub.pull [rowI (aD zB) p.next.length 3 1 (List.replicate p.next.length (vI 0)), rowI (aD zA) p.next.length 3 1 (List.replicate p.next.length (vI 0))] _ (.pull [rowI (aD zB) p.next.length 3 1 (List.replicate p.next.length (vI 0)), rowI (aD zA) p.next.length 3 1 (List.replicate p.next.length (vI 0))] _ (.pull [rowI (aD zB) p.next.length 3 1 (List.replicate p.next.length (vI 0))] _ (.k (.k (.k (.k (.k .rf))))))))
   refine RO.fork [5] (by kernel_rfl) rfl ⟨⟨_, rfl, rfl, l_makeSlice (m := p.next.length) underlying23 inf3 rfl rfl (by omega) (by omega) (fun zB => ⟨by exact Sub.d (.d (.d (.d (.d (.d (.k .z)))))), ?_⟩)⟩, trivial⟩
   refine RO.fork [9] (by kernel_rfl) rfl ⟨⟨_, rfl, rfl, l_sb (v := (.slice (aD zB) p.next.length p.next.length)) (vs := [(.slice (aD zB) p.next.length p.next.length)]) 3 inf23 rfl rfl rfl rfl rfl rfl (by simp [putL]) ⟨by exact Sub.d (.d (.d (.d (.d (.d (.k .z)))))), ?_⟩⟩, trivial⟩
   exact RO.fin (by kernel_rfl) ⟨zA, zB, zC, zD, rfl, (.of rfl)⟩ (by exact Sub.pull [rowI (aD zB) p.next.length 3 1 (List.replicate p.next.length (vI 0)), rowI (aD zA) p.next.length 3 1 (List.replicate p.next.length (vI 0))] _ (.pull [rowI (aD zB) p.next.length 3 1 (List.replicate p.next.length (vI 0)), rowI (aD zA) p.next.length 3 1 (List.replicate p.next.length (vI 0))] _ (.pull [rowI (aD zB) p.next.length 3 1 (List.replicate p.next.length (vI 0))] _ (.k (.k (.k (.k (.k .rf))))))))
  refine RO.fork [2] (by kernel_rfl) rfl ⟨⟨_, rfl, rfl, l_makeSlice (m := p.next.length) underlying23 inf3 rfl rfl (by omega) (by omega) (fun zA => ⟨by exact Sub.d (.d (.d (.d (.d (.d (.k .z)))))), ?_⟩)⟩, trivial⟩
  refine RO.fork [8] (by kernel_rfl) rfl ⟨⟨_, rfl, rfl, l_sb (v := (.slice (aD zA) p.next.length p.next.length)) (vs := [(.slice (aD zA) p.next.length p.next.length)]) 2 inf23 rfl rfl rfl rfl rfl rfl (by simp [putL]) ⟨by exact Sub.d (.d (.d (.d (.d (.d (.k .z)))))), ?_⟩⟩, trivial⟩
  refine RO.fork [9] (by kernel_rfl) rfl ⟨⟨_, rfl, rfl, l_sb (v := (.slice (aD zB) p.next.length p.next.length)) (vs := [(.slice (aD zB) p.next.length p.next.length)]) 3 inf23 rfl rfl rfl rfl rfl rfl (by simp [putL]) ⟨by exact Sub.d (.d (.d (.d (.d (.d (.k .z)))))), ?_⟩⟩, trivial⟩
  exact RO.fin (by kernel_rfl) ⟨zA, zB, zC, zD, rfl, (.of rfl)⟩ (by exact Sub.pull [rowI (aD zA) p.next.length 3 1 (List.replicate p.next.length (vI 0)), rowI (aD zB) p.next.length 3 1 (List.replicate p.next.length (vI 0))] _ (.pull [rowI (aD zA) p.next.length 3 1 (List.replicate p.next.length (vI 0)), rowI (aD zB) p.next.length 3 1 (List.replicate p.next.length (vI 0))] _ (.k (.k (.k (.k (.k (.k .rf))))))))
 rintro ρ O ⟨zA, zB, zC, zD, rfl, hH⟩
 obtain ⟨ρ0, rfl⟩ := hH.elim
 clear hH
 refine T.s (T.rg (TO.q (q_fa underlying76 rfl inf3 rfl rfl) (TO.q (q_lb 6 underlying3 rfl rfl rfl rfl) (TO.l rfl (l_makeSlice (m := p.next.length) underlying81 inf4 rfl rfl (by omega) (by omega) (fun bx4 => ?_))))))
 refine TO.l rfl (l_alloc inf81 rfl (fun bx5 => ?_))
 refine TO.l rfl (l_sb (v := (.slice (aD bx4) p.next.length p.next.length)) (vs := [(.slice (aD bx4) p.next.length p.next.length)]) 0 inf81 rfl rfl rfl rfl rfl rfl (by simp [putL]) ?_)
 refine TO.nl (T.s (T.rg (TO.l rfl (l_alloc inf23 rfl (fun bx6 => ?_)))))
 refine TO.nl (T.s (T.rg (TO.l rfl (l_alloc inf3 rfl (fun bx7 => ?_)))))
 refine TO.l rfl (l_sb (v := vI 0) (vs := [(vI 0)]) 0 inf3 rfl rfl rfl rfl rfl rfl (by simp [putL]) ?_)
 refine TO.nl (T.s (T.rg (TO.l rfl (l_alloc inf103 rfl (fun bx8 => ?_)))))
 refine TO.nl (T.s (T.rg (TO.q (q_makeFunc) (TO.l rfl (l_sb (v := (.func (.func 79) #[] #[(.pointer (aD bx7)), (.pointer (aD zC)), (.pointer (aD zD)), (.pointer (aD bx6)), (.pointer (aD bx1)), (.pointer (aD bx2)), (.pointer (aD bx8)), (.pointer (aD bx5)), (.pointer (aD bx3))])) (vs := [(.func (.func 79) #[] #[(.pointer (aD bx7)), (.pointer (aD zC)), (.pointer (aD zD)), (.pointer (aD bx6)), (.pointer (aD bx1)), (.pointer (aD bx2)), (.pointer (aD bx8)), (.pointer (aD bx5)), (.pointer (aD bx3))])]) 0 inf103 rfl rfl rfl rfl rfl rfl (by simp [putL]) ?_)))))
 refine TO.nl (T.s (T.s (T.rg (TO.q (q_fa underlying76 rfl inf3 rfl rfl) (TO.q (q_lb 11 underlying3 rfl rfl rfl rfl) (TO.qm rfl (TO.nl (T.block (T.nilRow 3 1 (T.nilRow 23 1 ?_))))))))))
 refine T.sub (O' := [oI bx7 3 [(vI 0)], oI zC 23 [(.slice (aD zA) p.next.length p.next.length)], oI zD 23 [(.slice (aD zB) p.next.length p.next.length)], oI bx6 23 [nS], oI bx1 76 [vI ((p.next.length : Nat) : Int), (.func (.func 77) #[] #[(.pointer (aD gx))])], oI bx2 69 [fal], oI bx8 103 [(.func (.func 79) #[] #[(.pointer (aD bx7)), (.pointer (aD zC)), (.pointer (aD zD)), (.pointer (aD bx6)), (.pointer (aD bx1)), (.pointer (aD bx2)), (.pointer (aD bx8)), (.pointer (aD bx5)), (.pointer (aD bx3))])], oI bx5 81 [(.slice (aD bx4) p.next.length p.next.length)], oI bx3 22 [nS], oI gx 25 (pC p k), rowI (aD zA) p.next.length 3 1 (List.replicate p.next.length (vI 0)), rowI (aD zB) p.next.length 3 1 (List.replicate p.next.length (vI 0)), rowI none 0 3 1 [], rowI (aD bx4) p.next.length 4 1 (List.replicate p.next.length (.bool false)), rowI none 0 23 1 []] ++ OO) (by exact Sub.pull [rowI none 0 23 1 [], rowI none 0 3 1 [], oI bx8 103 [(.func (.func 79) #[] #[(.pointer (aD bx7)), (.pointer (aD zC)), (.pointer (aD zD)), (.pointer (aD bx6)), (.pointer (aD bx1)), (.pointer (aD bx2)), (.pointer (aD bx8)), (.pointer (aD bx5)), (.pointer (aD bx3))])]] _ (.pull [rowI none 0 23 1 [], rowI none 0 3 1 [], oI bx8 103 [(.func (.func 79) #[] #[(.pointer (aD bx7)), (.pointer (aD zC)), (.pointer (aD zD)), (.pointer (aD bx6)), (.pointer (aD bx1)), (.pointer (aD bx2)), (.pointer (aD bx8)), (.pointer (aD bx5)), (.pointer (aD bx3))])], oI bx6 23 [nS], oI bx5 81 [(.slice (aD bx4) p.next.length p.next.length)], rowI (aD bx4) p.next.length 4 1 (List.replicate p.next.length (.bool false))] _ (.pull [rowI none 0 23 1 [], rowI none 0 3 1 [], oI bx8 103 [(.func (.func 79) #[] #[(.pointer (aD bx7)), (.pointer (aD zC)), (.pointer (aD zD)), (.pointer (aD bx6)), (.pointer (aD bx1)), (.pointer (aD bx2)), (.pointer (aD bx8)), (.pointer (aD bx5)), (.pointer (aD bx3))])], oI bx6 23 [nS], oI bx5 81 [(.slice (aD bx4) p.next.length p.next.length)], rowI (aD bx4) p.next.length 4 1 (List.replicate p.next.length (.bool false))] _ (.pull [rowI none 0 23 1 [], rowI none 0 3 1 [], oI bx8 103 [(.func (.func 79) #[] #[(.pointer (aD bx7)), (.pointer (aD zC)), (.pointer (aD zD)), (.pointer (aD bx6)), (.pointer (aD bx1)), (.pointer (aD bx2)), (.pointer (aD bx8)), (.pointer (aD bx5)), (.pointer (aD bx3))])]] _ (.pull [rowI none 0 23 1 [], rowI none 0 3 1 [], oI bx8 103 [(.func (.func 79) #[] #[(.pointer (aD bx7)), (.pointer (aD zC)), (.pointer (aD zD)), (.pointer (aD bx6)), (.pointer (aD bx1)), (.pointer (aD bx2)), (.pointer (aD bx8)), (.pointer (aD bx5)), (.pointer (aD bx3))])], oI bx5 81 [(.slice (aD bx4) p.next.length p.next.length)], rowI (aD bx4) p.next.length 4 1 (List.replicate p.next.length (.bool false)), rowI (aD zA) p.next.length 3 1 (List.replicate p.next.length (vI 0)), rowI (aD zB) p.next.length 3 1 (List.replicate p.next.length (vI 0)), oI bx3 22 [nS], oI bx2 69 [fal]] _ (.pull [rowI none 0 23 1 [], rowI none 0 3 1 [], oI bx8 103 [(.func (.func 79) #[] #[(.pointer (aD bx7)), (.pointer (aD zC)), (.pointer (aD zD)), (.pointer (aD bx6)), (.pointer (aD bx1)), (.pointer (aD bx2)), (.pointer (aD bx8)), (.pointer (aD bx5)), (.pointer (aD bx3))])], oI bx5 81 [(.slice (aD bx4) p.next.length p.next.length)], rowI (aD bx4) p.next.length 4 1 (List.replicate p.next.length (.bool false)), rowI (aD zA) p.next.length 3 1 (List.replicate p.next.length (vI 0)), rowI (aD zB) p.next.length 3 1 (List.replicate p.next.length (vI 0)), oI bx3 22 [nS]] _ (.pull [rowI none 0 23 1 [], rowI none 0 3 1 []] _ (.pull [rowI none 0 23 1 [], rowI none 0 3 1 []] _ (.pull [rowI none 0 23 1 [], rowI none 0 3 1 [], rowI (aD bx4) p.next.length 4 1 (List.replicate p.next.length (.bool false)), rowI (aD zA) p.next.length 3 1 (List.replicate p.next.length (vI 0)), rowI (aD zB) p.next.length 3 1 (List.replicate p.next.length (vI 0))] _ (.pull [rowI none 0 23 1 [], rowI none 0 3 1 [], rowI (aD bx4) p.next.length 4 1 (List.replicate p.next.length (.bool false)), rowI (aD zA) p.next.length 3 1 (List.replicate p.next.length (vI 0)), rowI (aD zB) p.next.length 3 1 (List.replicate p.next.length (vI 0))] _ (.pull [rowI none 0 23 1 [], rowI none 0 3 1 [], rowI (aD bx4) p.next.length 4 1 (List.replicate p.next.length (.bool false))] _ (.pull [rowI none 0 23 1 [], rowI none 0 3 1 [], rowI (aD bx4) p.next.length 4 1 (List.replicate p.next.length (.bool false))] _ (.pull [rowI none 0 23 1 []] _ (.pull [rowI none 0 23 1 []] _ (.k .rf))))))))))))))) ?_
 refine T.loopS (fun (v : Nat) ρ O => ∃ (s : CL) (sb : Option Addr) (sc : Nat) (ab : Option Addr) (ac : Nat) (ps : List Rec), O = ([oI bx7 3 [(vI ((s.clk : Nat) : Int))], oI zC 23 [(.slice (aD zA) p.next.length p.next.length)], oI zD 23 [(.slice (aD zB) p.next.length p.next.length)], oI bx6 23 [(.slice sb s.stk.length sc)], oI bx1 76 [vI ((p.next.length : Nat) : Int), (.func (.func 77) #[] #[(.pointer (aD gx))])], oI bx2 69 [fal], oI bx8 103 [(.func (.func 79) #[] #[(.pointer (aD bx7)), (.pointer (aD zC)), (.pointer (aD zD)), (.pointer (aD bx6)), (.pointer (aD bx1)), (.pointer (aD bx2)), (.pointer (aD bx8)), (.pointer (aD bx5)), (.pointer (aD bx3))])], oI bx5 81 [(.slice (aD bx4) p.next.length p.next.length)], oI bx3 22 [(.slice ab ps.length ac)], oI gx 25 (pC p k), rowI (aD zA) p.next.length 3 1 (nats s.idx), rowI (aD zB) p.next.length 3 1 (nats s.low), rowI sb sc 3 1 (nats s.stk), rowI (aD bx4) p.next.length 4 1 (bools s.dn), rowI ab ac 23 1 (vals ps)] ++ (itms 3 ps ++ OO)) ∧ v ≤ p.next.length ∧ nums ps = s.all.map intY ∧ CLok p.d al s ∧ TInv p.next.length (EA p.d al) [] s.ts ∧ (∀ u, u < v → al u = true → s.idx.getD u 0 ≠ 0) ∧ Heads [(0, (.agg #[vI ((p.next.length : Nat) : Int), (.func (.func 77) #[] #[(.pointer (aD gx))])])), (1, fal), (2, (.pointer (aD bx1))), (3, (.pointer (aD bx2))), (4, (.pointer (aD bx3))), (5, (.pointer (aD zC))), (6, (.pointer (aD zD))), (7, (.pointer (aD bx5))), (8, (.pointer (aD bx6))), (9, (.pointer (aD bx7))), (10, (.pointer (aD bx8))), (23, vI ((p.next.length : Nat) : Int)), (24, vI ((v : Nat) : Int))] ρ) (fun v => p.next.length - v) 0 ?_ ?_
 ·refine ⟨{ idx := List.replicate p.d.next.length 0, low := List.replicate p.d.next.length 0, dn := List.replicate p.d.next.length false, stk := [], clk := 0, all := [], comp := fun _ => -1, cnt := 0 }, none, 0, none, 0, [], ?_, Nat.zero_le _, rfl, (CL.start p.d al).1, (CL.start p.d al).2, fun u hu => absurd hu (by omega), (.of rfl)⟩
  simp only [List.map_replicate, List.map_nil, List.length_nil]; rfl
 rintro v ρ O ⟨s, sb, sc, ab, ac, ps, rfl, hvl9, hps, hok, hinv, hvis, hH⟩
 obtain ⟨ρ0, rfl⟩ := hH.elim
 clear hH
 have hli : s.idx.length = p.next.length := hok.li
 refine T.s (T.rg (TO.q (q_lss rfl rfl) (TO.nl (T.s (T.condP rfl (fun hc => ?_) (fun hc => ?_))))))
 ·have hlt25 : v < p.next.length := by omega
  have hlv : v < p.next.length := by omega
  have hvi : v < s.idx.length := by omega
  refine T.skip (T.s (T.block (T.s (T.rg (TO.qm rfl (TO.qa rfl (TO.nl (T.s (T.rg (TO.q (q_lb 1 underlying23 rfl rfl rfl rfl) (TO.qm rfl (TO.q (q_ix (i := v) underlying23 inf3 rfl rfl (rowO (mG 10 rfl)) hlv (by rw [List.length_map]; exact hvi)) (TO.q (q_ld underlying3 rfl rfl (rowO (mG 10 rfl)) (nats_get hvi)) ?_)))))))))))))
  by_cases h31 : ((s.idx[v] : Nat) : Int) = 0
  ·refine TO.q (QT.toB (q_eql rfl rfl) (decide_eq_true h31)) ?_
   refine TO.qm rfl (TO.gq rfl rfl (q_lb 5 underlying69 rfl rfl rfl rfl) (TO.gq rfl rfl (q_move rfl) ?_))
   by_cases h35 : al v = true
   ·have hk35 := CallV.keepR ([oI bx7 3 [(vI ((s.clk : Nat) : Int))], oI zC 23 [(.slice (aD zA) p.next.length p.next.length)], oI zD 23 [(.slice (aD zB) p.next.length p.next.length)], oI bx6 23 [(.slice sb s.stk.length sc)], oI bx1 76 [vI ((p.next.length : Nat) : Int), (.func (.func 77) #[] #[(.pointer (aD gx))])], oI bx2 69 [fal], oI bx8 103 [(.func (.func 79) #[] #[(.pointer (aD bx7)), (.pointer (aD zC)), (.pointer (aD zD)), (.pointer (aD bx6)), (.pointer (aD bx1)), (.pointer (aD bx2)), (.pointer (aD bx8)), (.pointer (aD bx5)), (.pointer (aD bx3))])], oI bx5 81 [(.slice (aD bx4) p.next.length p.next.length)], oI bx3 22 [(.slice ab ps.length ac)], oI gx 25 (pC p k), rowI (aD zA) p.next.length 3 1 (nats s.idx), rowI (aD zB) p.next.length 3 1 (nats s.low), rowI sb sc 3 1 (nats s.stk), rowI (aD bx4) p.next.length 4 1 (bools s.dn), rowI ab ac 23 1 (vals ps)] ++ itms 3 ps) (hal v hlv)
    refine TO.gd rfl rfl rfl (l_callG hk35 rfl rfl ?_)
    clear hk35
    rintro vr O' ⟨rfl, rfl⟩
    rw [decide_eq_true h35]
    refine TO.q (q_pick1 rfl rfl) (TO.nl ?_)
    refine T.cond1 rfl ?_
    refine T.rg (TO.q (q_lb 6 underlying103 rfl rfl rfl rfl) (TO.qm rfl ?_))
    have hk39 := CallV.of_fn (first := []) (args := [vI ((v : Nat) : Int)]) (caps := [(.pointer (aD bx7)), (.pointer (aD zC)), (.pointer (aD zD)), (.pointer (aD bx6)), (.pointer (aD bx1)), (.pointer (aD bx2)), (.pointer (aD bx8)), (.pointer (aD bx5)), (.pointer (aD bx3))]) ent79 (visitF base p k h hv hn hw OO al bx7 zC zD bx6 bx1 bx2 bx8 bx5 bx3 gx (aD zA) (aD zB) (aD bx4) p.next.length p.next.length p.next.length fal hal _ s sb sc ab ac ps [] v rfl hps hok hinv hlv (by omega) h35 (fun g hg => (List.not_mem_nil hg).elim))
    refine TO.l rfl (l_callG hk39 rfl rfl ?_)
    clear hk39
    rintro vr O' ⟨s2, sb2, sc2, ab2, ac2, ps2, t2, rfl, hps2, hd⟩
    refine TO.nl (T.rg (TO.q (q_addN (a := v) (b := 1) rfl rfl (by omega)) (TO.qm rfl (TO.nl ?_))))
    exact ⟨v + 1, by omega, ([oI bx7 3 [(vI ((s2.clk : Nat) : Int))], oI zC 23 [(.slice (aD zA) p.next.length p.next.length)], oI zD 23 [(.slice (aD zB) p.next.length p.next.length)], oI bx6 23 [(.slice sb2 s2.stk.length sc2)], oI bx1 76 [vI ((p.next.length : Nat) : Int), (.func (.func 77) #[] #[(.pointer (aD gx))])], oI bx2 69 [fal], oI bx8 103 [(.func (.func 79) #[] #[(.pointer (aD bx7)), (.pointer (aD zC)), (.pointer (aD zD)), (.pointer (aD bx6)), (.pointer (aD bx1)), (.pointer (aD bx2)), (.pointer (aD bx8)), (.pointer (aD bx5)), (.pointer (aD bx3))])], oI bx5 81 [(.slice (aD bx4) p.next.length p.next.length)], oI bx3 22 [(.slice ab2 ps2.length ac2)], oI gx 25 (pC p k), rowI (aD zA) p.next.length 3 1 (nats s2.idx), rowI (aD zB) p.next.length 3 1 (nats s2.low), rowI sb2 sc2 3 1 (nats s2.stk), rowI (aD bx4) p.next.length 4 1 (bools s2.dn), rowI ab2 ac2 23 1 (vals ps2)] ++ (itms 3 ps2 ++ OO)), (by exact Sub.rf), s2, sb2, sc2, ab2, ac2, ps2, rfl, by omega, hps2, hd.ok, hd.inv, (fun u hu ha => (Nat.lt_succ_iff_lt_or_eq.1 hu).elim (fun h1 => by have h2 := hd.ext.idx u (hvis u h1 ha); show s2.ts.idx u ≠ 0; rw [h2]; exact hvis u h1 ha) (fun h1 => h1 ▸ hd.post.1)), (.of rfl)⟩
   have hk35 := CallV.keepR ([oI bx7 3 [(vI ((s.clk : Nat) : Int))], oI zC 23 [(.slice (aD zA) p.next.length p.next.length)], oI zD 23 [(.slice (aD zB) p.next.length p.next.length)], oI bx6 23 [(.slice sb s.stk.length sc)], oI bx1 76 [vI ((p.next.length : Nat) : Int), (.func (.func 77) #[] #[(.pointer (aD gx))])], oI bx2 69 [fal], oI bx8 103 [(.func (.func 79) #[] #[(.pointer (aD bx7)), (.pointer (aD zC)), (.pointer (aD zD)), (.pointer (aD bx6)), (.pointer (aD bx1)), (.pointer (aD bx2)), (.pointer (aD bx8)), (.pointer (aD bx5)), (.pointer (aD bx3))])], oI bx5 81 [(.slice (aD bx4) p.next.length p.next.length)], oI bx3 22 [(.slice ab ps.length ac)], oI gx 25 (pC p k), rowI (aD zA) p.next.length 3 1 (nats s.idx), rowI (aD zB) p.next.length 3 1 (nats s.low), rowI sb sc 3 1 (nats s.stk), rowI (aD bx4) p.next.length 4 1 (bools s.dn), rowI ab ac 23 1 (vals ps)] ++ itms 3 ps) (hal v hlv)
   refine TO.gd rfl rfl rfl (l_callG hk35 rfl rfl ?_)
   clear hk35
   rintro vr O' ⟨rfl, rfl⟩
   rw [decide_eq_false h35]
   refine TO.q (q_pick1 rfl rfl) (TO.nl (T.cond0 rfl (T.skip (T.rg (TO.q (q_addN (a := v) (b := 1) rfl rfl (by omega)) (TO.qm rfl (TO.nl ?_)))))))
   exact ⟨v + 1, by omega, ([oI bx7 3 [(vI ((s.clk : Nat) : Int))], oI zC 23 [(.slice (aD zA) p.next.length p.next.length)], oI zD 23 [(.slice (aD zB) p.next.length p.next.length)], oI bx6 23 [(.slice sb s.stk.length sc)], oI bx1 76 [vI ((p.next.length : Nat) : Int), (.func (.func 77) #[] #[(.pointer (aD gx))])], oI bx2 69 [fal], oI bx8 103 [(.func (.func 79) #[] #[(.pointer (aD bx7)), (.pointer (aD zC)), (.pointer (aD zD)), (.pointer (aD bx6)), (.pointer (aD bx1)), (.pointer (aD bx2)), (.pointer (aD bx8)), (.pointer (aD bx5)), (.pointer (aD bx3))])], oI bx5 81 [(.slice (aD bx4) p.next.length p.next.length)], oI bx3 22 [(.slice ab ps.length ac)], oI gx 25 (pC p k), rowI (aD zA) p.next.length 3 1 (nats s.idx), rowI (aD zB) p.next.length 3 1 (nats s.low), rowI sb sc 3 1 (nats s.stk), rowI (aD bx4) p.next.length 4 1 (bools s.dn), rowI ab ac 23 1 (vals ps)] ++ (itms 3 ps ++ OO)), (by exact Sub.rf), s, sb, sc, ab, ac, ps, rfl, by omega, hps, hok, hinv, (fun u hu ha => (Nat.lt_succ_iff_lt_or_eq.1 hu).elim (fun h1 => hvis u h1 ha) (fun h1 => by subst h1; first | (rw [gd (by omega)]; omega) | exact absurd ha h35)), (.of rfl)⟩
  refine TO.q (QT.toB (q_eql rfl rfl) (decide_eq_false h31)) (TO.qm rfl (TO.pd rfl rfl (TO.pd rfl rfl (TO.pd rfl rfl (TO.q (q_pick0 rfl rfl) (TO.nl (T.cond0 rfl (T.skip (T.rg ?_)))))))))
  refine TO.q (q_addN (a := v) (b := 1) rfl rfl (by omega)) (TO.qm rfl (TO.nl ?_))
  exact ⟨v + 1, by omega, ([oI bx7 3 [(vI ((s.clk : Nat) : Int))], oI zC 23 [(.slice (aD zA) p.next.length p.next.length)], oI zD 23 [(.slice (aD zB) p.next.length p.next.length)], oI bx6 23 [(.slice sb s.stk.length sc)], oI bx1 76 [vI ((p.next.length : Nat) : Int), (.func (.func 77) #[] #[(.pointer (aD gx))])], oI bx2 69 [fal], oI bx8 103 [(.func (.func 79) #[] #[(.pointer (aD bx7)), (.pointer (aD zC)), (.pointer (aD zD)), (.pointer (aD bx6)), (.pointer (aD bx1)), (.pointer (aD bx2)), (.pointer (aD bx8)), (.pointer (aD bx5)), (.pointer (aD bx3))])], oI bx5 81 [(.slice (aD bx4) p.next.length p.next.length)], oI bx3 22 [(.slice ab ps.length ac)], oI gx 25 (pC p k), rowI (aD zA) p.next.length 3 1 (nats s.idx), rowI (aD zB) p.next.length 3 1 (nats s.low), rowI sb sc 3 1 (nats s.stk), rowI (aD bx4) p.next.length 4 1 (bools s.dn), rowI ab ac 23 1 (vals ps)] ++ (itms 3 ps ++ OO)), (by exact Sub.rf), s, sb, sc, ab, ac, ps, rfl, by omega, hps, hok, hinv, (fun u hu ha => (Nat.lt_succ_iff_lt_or_eq.1 hu).elim (fun h1 => hvis u h1 ha) (fun h1 => by subst h1; first | (rw [gd (by omega)]; omega) | exact absurd ha h35)), (.of rfl)⟩
 have hge25 : ¬ v < p.next.length := by omega
 refine T.exit ?_
 refine T.s (T.rg (TO.q (q_lb 8 underlying22 rfl rfl rfl rfl) (TO.l rfl (l_sb (v := (.slice ab ps.length ac)) (vs := [(.slice ab ps.length ac)]) 8 inf22 rfl rfl rfl rfl rfl rfl (by simp [putL]) ?_))))
 refine TO.nl (T.ret (Res.drop ?_))
 refine Res.cell1n (i := 8) Tryd.results53 underlying22 rfl rfl rfl ?_
 have hpo := parts_ok (S := fun u => al u = true) (fun u w e => ⟨e.1, hEl u w e⟩) hinv (fun u hu ha => hvis u (by omega) ha) (fun u hu => hok.alw u hu) hok.prt
 exact ⟨[rowI ab ac 23 1 (vals ps), oI gx 25 (pC p k)] ++ (OO ++ itms 3 ps), Sub.tailSwap (by exact Sub.d (.d (.d (.d (.d (.d (.d (.d (.d (.pull [oI gx 25 (pC p k), rowI (aD zA) p.next.length 3 1 (nats s.idx), rowI (aD zB) p.next.length 3 1 (nats s.low), rowI sb sc 3 1 (nats s.stk), rowI (aD bx4) p.next.length 4 1 (bools s.dn)] _ (.k (.d (.d (.d (.d .rf))))))))))))))), s.all, ab, ac, ps, rfl, rfl, hps, hpo⟩
end Go.Proofs.YtnikhiohindggaaDoor


namespace Go.Lx
theorem DE_lt {d : DFA} (hv : Val d) : ∀ u v, DE d u v → v < d.next.length := fun u v ⟨hu, x, hx, e⟩ => e ▸ (hv.toN_lt hu hx).1
theorem run_rchD {d : DFA} (hv : Val d) : ∀ (w : List Nat) (s : Nat), s < d.next.length → Wd d w → Rch (DE d) s (runN d s w)
 | [], s, _, _ => .refl s
 | x :: w, s, hs, hw => by
  have hx := hw x (by simp)
  exact .step ⟨hs, x, hx, rfl⟩ (run_rchD hv w _ (hv.toN_lt hs hx).1 fun y hy => hw y (by simp [hy]))
theorem mem_order {d : DFA} (hv : Val d) {v : Nat} : v ∈ order d ↔ Rch (DE d) d.start.toNat v := by
 constructor
 ·intro h
  obtain ⟨w, hw, e⟩ := bfsN_reach hv _ v h
  rw [← e]; exact run_rchD hv w _ (start_lt hv) hw
 ·intro h
  have h0 : d.start.toNat ∈ order d := (bfsN_prefix d 0 d.next.length (Nat.zero_le _)).subset (by simp [bfsN])
  have all : ∀ a b, Rch (DE d) a b → a ∈ order d → b ∈ order d := fun a b hr => by
   induction hr with
   | refl => exact id
   | step e _ ih =>
    intro ha
    obtain ⟨hu, x, hx, rfl⟩ := e
    exact ih (order_closed hv _ ha _ (List.mem_map.2 ⟨x, List.mem_range.2 hx, rfl⟩))
  exact all _ _ h h0
def rchM (ks : List Nat) : List (Int × Bool) := ks.map fun v => (((v : Nat) : Int), true)
theorem rchM_look (v : Nat) : ∀ ks : List Nat, lookL ((v : Nat) : Int) (rchM ks) = if v ∈ ks then some true else none
 | [] => rfl
 | k :: ks => by
  have ih := rchM_look v ks
  unfold rchM at ih ⊢
  rw [List.map_cons]
  unfold lookL
  by_cases e : v = k
  ·subst e; simp
  ·rw [if_neg (by simp only; omega), ih]
   by_cases h : v ∈ ks <;> simp [h, e]
theorem rchM_at (ks : List Nat) (v : Nat) : (lookL ((v : Nat) : Int) (rchM ks)).getD false = decide (v ∈ ks) := by
 rw [rchM_look]; by_cases h : v ∈ ks <;> simp [h]
theorem rchM_new {ks : List Nat} {v : Nat} (h : v ∉ ks) : ((v : Nat) : Int) ∉ (rchM ks).map Prod.fst := fun hm => by
 unfold rchM at hm
 rw [List.map_map, List.mem_map] at hm
 obtain ⟨a, ha, e⟩ := hm
 have e2 : ((a : Nat) : Int) = ((v : Nat) : Int) := e
 have : a = v := by omega
 exact h (this ▸ ha)
theorem rchM_snoc (ks : List Nat) (v : Nat) : rchM (ks ++ [v]) = rchM ks ++ [(((v : Nat) : Int), true)] := by simp [rchM]
theorem add_old {ks : List Nat} {v : Nat} (h : v ∈ ks) : add ks v = ks := if_pos h
theorem add_new {ks : List Nat} {v : Nat} (h : v ∉ ks) : add ks v = ks ++ [v] := if_neg h
theorem drop_snoc {ks : List Nat} {i v : Nat} (h : i ≤ ks.length) : (ks ++ [v]).drop i = ks.drop i ++ [v] := by rw [List.drop_append_of_le_length h]
theorem bfsM_all {d : DFA} {i o : Nat} (h : (bfsN d i)[i]? = some o) : bfsM d i o (letN d) = bfsN d (i + 1) := (bfsN_succ h).symm
def alI (d : DFA) (al : Nat → Bool) (v : Nat) : Bool := decide (v ∈ order d) && al v
theorem alI_ins {d : DFA} (hv : Val d) (al : Nat → Bool) : (fun v => alI d al v = true) = Ins d al := funext fun v => propext (by
 unfold alI Ins
 rw [Bool.and_eq_true, decide_eq_true_eq, mem_order hv])
def FndI (one two : Nat → Bool) (ps : List (List Nat)) : Prop := ∀ P ∈ ps, ¬ ((∃ v ∈ P, one v = true) ∧ ∃ u ∈ P, two u = true)
theorem FndI.step {one two : Nat → Bool} {all : List (List Nat)} {i : Nat} (h : FndI one two (all.take i)) (hi : i < all.length) (hn : ¬ ((∃ v ∈ all[i], one v = true) ∧ ∃ u ∈ all[i], two u = true)) : FndI one two (all.take (i + 1)) := fun P hP => by
 rw [List.take_succ_eq_append_getElem hi] at hP
 rcases List.mem_append.1 hP with hP | hP
 ·exact h P hP
 ·rw [List.mem_singleton.1 hP]; exact hn
theorem find_none {d : DFA} (hv : Val d) {al one two : Nat → Bool} {all : List (List Nat)} (h : PartsOk d.next.length (DE d) (fun v => alI d al v = true) all) (hn : FndI one two all) : FindOk d al one two none := fun hh => by
 rw [alI_ins hv] at h
 obtain ⟨P, hP, h1, h2⟩ := (parts_has (DE_lt hv) (start_lt hv) h).1 hh
 exact hn P hP ⟨h1, h2⟩
theorem find_way1 {d : DFA} (hv : Val d) {al : Nat → Bool} {all : List (List Nat)} (h : PartsOk d.next.length (DE d) (fun v => alI d al v = true) all) {P : List Nat} (hP : P ∈ all) {s : Nat} (hs : s ∈ P) : ∃ (Q : Nat → Prop) (t : Nat), (∀ v, Q v → (fun _ : Nat => true) v = true) ∧ decide (t = s) = true ∧ ((false = false ∧ Rch (InS (DE d) Q) d.start.toNat t) ∨ ∃ c, InS (DE d) Q d.start.toNat c ∧ Rch (InS (DE d) Q) c t) := by
 rw [alI_ins hv] at h
 have hr := ((h.sub P hP s hs).2).1
 refine ⟨fun _ => True, s, fun _ _ => rfl, decide_eq_true rfl, .inl ⟨rfl, hr.mono fun u v e => ⟨e, trivial, trivial⟩⟩⟩
theorem find_way2 {d : DFA} (hv : Val d) {al two : Nat → Bool} {all : List (List Nat)} (h : PartsOk d.next.length (DE d) (fun v => alI d al v = true) all) {P : List Nat} (hP : P ∈ all) {s u : Nat} (hs : s ∈ P) (hu : u ∈ P) (h2 : two u = true) (far : Bool) : ∃ (Q : Nat → Prop) (t : Nat), (∀ v, Q v → (fun u : Nat => decide (u ∈ P)) v = true) ∧ two t = true ∧ ((far = false ∧ Rch (InS (DE d) Q) s t) ∨ ∃ c, InS (DE d) Q s c ∧ Rch (InS (DE d) Q) c t) := by
 rw [alI_ins hv] at h
 obtain ⟨c, h3, h4⟩ := part_ways h hP hs hu
 exact ⟨fun v => v ∈ P, u, fun v hv => decide_eq_true hv, h2, .inr ⟨c, h3, h4⟩⟩
theorem find_some {d : DFA} (hv : Val d) {al one two : Nat → Bool} {all : List (List Nat)} (h : PartsOk d.next.length (DE d) (fun v => alI d al v = true) all) {P : List Nat} (hP : P ∈ all) {s : Nat} (hs : s ∈ P) (ho : one s = true) {pre lo back : List Nat} {t : Nat} {l : La}
  (h1 : PathR d (fun _ => true) (fun u => decide (u = s)) d.start.toNat false pre s) (h2 : PathR d (fun u => decide (u ∈ P)) two s false lo t) (h3 : PathR d (fun u => decide (u ∈ P)) (fun u => decide (u = s)) t (decide (t = s)) back s) (hc : CanonOf ⟨pre, lo ++ back⟩ l) : FindOk d al one two (some l) := by
 rw [alI_ins hv] at h
 exact ⟨pre, lo ++ back, find_word (fun s w hs hw => runN_lt hv hs w hw) h hP hs ho h1 h2 h3, hc⟩
def FdR (d : DFA) (al one two : Nat → Bool) (b : Bool) (l : La) : Prop := if b = true then FindOk d al one two (some l) else l = ⟨[], []⟩ ∧ FindOk d al one two none
theorem rchM_zero {d : DFA} (hv : Val d) : rchM (bfsN d 0) = [(d.start, true)] := by
 have := hv.s0
 simp only [bfsN, rchM, List.map_cons, List.map_nil]
 rw [Int.toNat_of_nonneg hv.s0]
theorem bfs_zero {d : DFA} (hv : Val d) : nats ((bfsN d 0).drop 0) = [.int .i64 d.start] := by
 have := hv.s0
 simp only [bfsN, List.drop_zero, List.map_cons, List.map_nil]
 rw [Int.toNat_of_nonneg hv.s0]
theorem any_intY (p : Nat → Bool) : ∀ l : List Nat, (intY l).any (fun x => decide (p x.toNat = true)) = l.any p
 | [] => rfl
 | a :: l => by
  have ih := any_intY p l
  show (decide (p (Int.toNat ((a : Nat) : Int)) = true) || (intY l).any _) = (p a || l.any p)
  rw [ih, Int.toNat_natCast]
  cases p a <;> rfl
theorem no_any {p : Nat → Bool} {l : List Nat} (h : (intY l).any (fun x => decide (p x.toNat = true)) = false) : ¬ ∃ v ∈ l, p v = true := fun ⟨v, hv, hp⟩ => by
 rw [any_intY] at h
 rw [List.any_eq_true.2 ⟨v, hv, hp⟩] at h; cases h
theorem yes_any {p : Nat → Bool} {l : List Nat} (h : (intY l).any (fun x => decide (p x.toNat = true)) = true) : ∃ v ∈ l, p v = true := by
 rw [any_intY] at h
 obtain ⟨v, hv, hp⟩ := List.any_eq_true.1 h
 exact ⟨v, hv, hp⟩
theorem mem_intY {l : List Nat} {x : Int} (h : x ∈ intY l) : ∃ u : Nat, u ∈ l ∧ x = ((u : Nat) : Int) := by
 obtain ⟨u, hu, e⟩ := List.mem_map.1 h
 exact ⟨u, hu, e.symm⟩
theorem intY_get {l : List Nat} {k : Nat} (hk : k < (intY l).length) : (intY l)[k] = ((l[k]'(by rw [← intY_len]; exact hk) : Nat) : Int) := List.getElem_map _
theorem PathR.small {d : DFA} (hn : d.next.length ≤ 4096) {al to : Nat → Bool} {frm : Nat} {far : Bool} {w : List Nat} {t : Nat} (h : PathR d al to frm far w t) : w.length ≤ 4096 := by have := h.len; omega
theorem FindL.ok {d : DFA} {al one two : Nat → Bool} {pre loop : List Nat} (h : FindL d al one two pre loop) : 0 < loop.length := h.pos
theorem prNext_step {a b : DFA} {s t : Nat} (hs : s < a.next.length) (ht : t < b.next.length) : (prNext a b).take (s * b.next.length + (t + 1)) = (prNext a b).take (s * b.next.length + t) ++ [prRow a b s t] := by
 have h := prNext_at hs ht
 have hl := (List.getElem?_eq_some_iff.1 h).1
 rw [List.getElem?_eq_getElem hl] at h
 rw [show s * b.next.length + (t + 1) = s * b.next.length + t + 1 by omega, List.take_succ_eq_append_getElem hl, Option.some.inj h]
def rCut (r : List Int) (x : Nat) : List Int := r.take x ++ List.replicate (r.length - x) 0
theorem rCut_zero (r : List Int) : rCut r 0 = List.replicate r.length 0 := by simp [rCut]
theorem rCut_end (r : List Int) : rCut r r.length = r := by simp [rCut]
theorem rCut_len (r : List Int) {x : Nat} (h : x ≤ r.length) : (rCut r x).length = r.length := by simp [rCut]; omega
theorem rCut_set {r : List Int} {x : Nat} {v : Int} (hx : x < r.length) (h : r[x]? = some v) : (rCut r x).set x v = rCut r (x + 1) := by
 unfold rCut
 have hl : (r.take x).length = x := by rw [List.length_take]; omega
 rw [List.getElem?_eq_getElem hx] at h
 rw [List.set_append_right _ _ (by omega), hl, Nat.sub_self, show r.length - x = (r.length - (x + 1)) + 1 by omega, List.replicate_succ, List.set_cons_zero, List.take_succ_eq_append_getElem hx, Option.some.inj h]
 simp
def pairP (p q : Par) : Par := ⟨p.vars, ((p.start.toNat * q.next.length + q.start.toNat : Nat) : Int), prNext p.d q.d, []⟩
def nilLa : La := ⟨[], []⟩
def diE (p q : Par) : Nat := if checkP p ≠ 0 then checkP p else if checkP q ≠ 0 then checkP q else if p.vars ≠ q.vars then 7 else 0
def WiR (p : Par) (l : La) (e : Nat) : Prop := (checkP p ≠ 0 ∧ e = checkP p ∧ l = nilLa) ∨ (checkP p = 0 ∧ e = 0 ∧ ∃ k, k % 2 = 0 ∧ k ≤ 16 ∧ FindOk p.d (alW p k) (topW p k) (topW p k) (some l)) ∨ (checkP p = 0 ∧ e = 9 ∧ l = nilLa ∧ ¬ witP p)
def DiR (p q : Par) (l : La) (b : Bool) (e : Nat) : Prop := (diE p q ≠ 0 ∧ e = diE p q ∧ b = false ∧ l = nilLa) ∨ (diE p q = 0 ∧ e = 0 ∧ b = true ∧ ∃ i j, i % 2 ≠ j % 2 ∧ i ≤ 16 ∧ j ≤ 16 ∧ FindOk (prG p q) (alD p q i j) (fun v => decide (f1 p q v = i)) (fun v => decide (f2 q v = j)) (some l)) ∨ (diE p q = 0 ∧ e = 0 ∧ b = false ∧ l = nilLa ∧ ¬ differP p q)
theorem diE_zero {p q : Par} : diE p q = 0 ↔ ValidP p ∧ ValidP q ∧ p.vars = q.vars := by
 unfold diE
 by_cases h1 : checkP p = 0
 ·by_cases h2 : checkP q = 0
  ·by_cases h3 : p.vars = q.vars
   ·rw [if_neg (by simp [h1]), if_neg (by simp [h2]), if_neg (by simp [h3])]
    exact ⟨fun _ => ⟨checkP_zero.1 h1, checkP_zero.1 h2, h3⟩, fun _ => rfl⟩
   ·rw [if_neg (by simp [h1]), if_neg (by simp [h2]), if_pos h3]
    exact ⟨fun h => (by cases h), fun h => absurd h.2.2 h3⟩
  ·rw [if_neg (by simp [h1]), if_pos h2]
   exact ⟨fun h => absurd h h2, fun h => absurd (checkP_zero.2 h.2.1) h2⟩
 ·rw [if_pos h1]
  exact ⟨fun h => absurd h h1, fun h => absurd (checkP_zero.2 h.1) h1⟩
end Go.Lx


namespace Go.Lx
open Go.RowKit
theorem sbY (a : Int) : Instr.sameBits 10000 (KIn a) (KIn a) = true := by simp [Instr.sameBits]
def st3C (sts : List St3) : List Value := sts.flatMap fun q => [.int .i64 (q.1 : Int), .int .i64 q.2.1, .int .u8 (q.2.2 : Int)]
theorem st3_get {sts : List St3} {i : Nat} (h : i < sts.length) (j : Nat) (hj : j < 3) : (st3C sts)[i * 3 + j]? = ([Value.int .i64 (sts[i].1 : Int), .int .i64 sts[i].2.1, .int .u8 (sts[i].2.2 : Int)])[j]? := flatL_get (F := fun q : St3 => [Value.int .i64 (q.1 : Int), .int .i64 q.2.1, .int .u8 (q.2.2 : Int)]) (fun _ => rfl) h j hj
theorem st3_len (sts : List St3) : (st3C sts).length = sts.length * 3 := flatL_len (F := fun q : St3 => [Value.int .i64 (q.1 : Int), .int .i64 q.2.1, .int .u8 (q.2.2 : Int)]) (fun _ => rfl) sts
theorem st3_snoc (sts : List St3) (s : Nat) (b : Int) (x : Nat) : st3C (sts ++ [(s, b, x)]) = st3C sts ++ [.int .i64 (s : Int), .int .i64 b, .int .u8 (x : Int)] := by simp [st3C]
def SeenM (far : Bool) (frm : Nat) (st : List St3) (m : List (Int × Bool)) : Prop := ∀ t : Nat, (lookL ((t : Nat) : Int) m).getD false = true ↔ SeenB far frm st t
theorem SeenM.start (far : Bool) (frm : Nat) : SeenM far frm [(frm, -1, 0)] [(((frm : Nat) : Int), !far)] := fun t => by
 unfold lookL SeenB
 by_cases e : ((t : Nat) : Int) = ((frm : Nat) : Int)
 ·rw [if_pos e]
  have e2 : t = frm := by omega
  subst e2
  cases far <;> simp
 ·rw [if_neg e]
  have e2 : t ≠ frm := by omega
  unfold lookL
  simp [e2]
theorem SeenM.put {far : Bool} {frm : Nat} {st : List St3} {m : List (Int × Bool)} (h : SeenM far frm st m) (h0 : 0 < st.length) (t : Nat) (b : Int) (x : Nat) : SeenM far frm (st ++ [(t, b, x)]) (putA ((t : Nat) : Int) true m) := fun s => by
 rw [lookY_put]
 unfold SeenB
 rw [drop_app h0]
 by_cases e : ((s : Nat) : Int) = ((t : Nat) : Int)
 ·rw [if_pos e]
  have e2 : s = t := by omega
  subst e2
  simp
 ·rw [if_neg e, h s]
  have e2 : s ≠ t := by omega
  unfold SeenB
  simp [e2]
theorem pathR_nil {d : DFA} {al to : Nat → Bool} {frm : Nat} (h : to frm = true) : PathR d al to frm false [] frm :=
 ⟨fun x hx => (by cases hx), rfl, h, fun v hv => (by cases hv), fun e => (by cases e), Nat.zero_le _⟩
end Go.Lx


namespace Go.Proofs.YtnikhiohindggaaDoor
open Go.Lx Go.RowKit _root_.Go.Proofs.Tryd
theorem setF (base : World) [Tab Tryd.prog base] (sb m : Nat) (mm : List (Int × Bool)) (u : Nat) :
  CallT Tryd.prog base 54 [vI ((u : Nat) : Int), .pointer (aD sb)] [oI sb 79 [(.map (some m))], mapI KIn Value.bool m mm] (fun v O' => v = .bool (decide (inM mm u = true)) ∧ O' = [oI sb 79 [(.map (some m))], mapI KIn Value.bool m mm]) := by
 refine CallT.enter func54 rfl ntmps54 rfl ?_
 refine T.s (T.rg (TO.qa rfl (TO.nl (T.s (T.rg (TO.q (q_lb 0 underlying79 rfl rfl rfl rfl) (TO.qm rfl (TO.q (QT.cast (q_lookup (K := KIn) (V := Value.bool) (a := ((u : Nat) : Int)) underlying79 inf4 (KeyOk.int underlying3) rfl rfl (mG 1 rfl)) (v' := .bool (decide (inM mm u = true))) (by unfold inM; cases lookL ((u : Nat) : Int) mm with | none => rfl | some b => cases b <;> rfl)) (TO.qa rfl (TO.nl (T.ret ?_)))))))))))
 refine Res.one (.bool (decide (inM mm u = true))) Tryd.results54 rfl ?_
 exact ⟨rfl, rfl⟩
theorem outF (base : World) [Tab Tryd.prog base] (n ob : Nat) (rb : Option Addr) (rc : Nat) (o : List Nat) (hl : o.length = n) (s : Nat) (hs : s < n) :
  CallT Tryd.prog base 55 [vI ((s : Nat) : Int), .pointer (aD ob)] [oI ob 23 [(.slice rb n rc)], rowI rb rc 3 1 (nats o)] (fun v O' => v = vI ((fn o s : Nat) : Int) ∧ O' = [oI ob 23 [(.slice rb n rc)], rowI rb rc 3 1 (nats o)]) := by
 refine CallT.enter func55 rfl ntmps55 rfl ?_
 have hso : s < o.length := by omega
 have hgv : (nats o)[s]? = some (vI ((fn o s : Nat) : Int)) := by rw [fn_get hso]; exact nats_get hso
 refine T.s (T.rg (TO.qa rfl (TO.nl (T.s (T.rg (TO.q (q_lb 0 underlying23 rfl rfl rfl rfl) (TO.qm rfl (TO.q (q_ix (i := s) underlying23 inf3 rfl rfl (rowO (mG 1 rfl)) hs (by rw [List.length_map]; exact hso)) (TO.q (q_ld underlying3 rfl rfl (rowO (mG 1 rfl)) hgv) (TO.qa rfl (TO.nl (T.ret ?_))))))))))))
 refine Res.one (vI ((fn o s : Nat) : Int)) Tryd.results55 rfl ?_
 exact ⟨rfl, rfl⟩
abbrev redO (p : Par) (k : DK) (gb pb fb ob gx : Nat) (rb : Option Addr) (rc : Nat) (o : List Nat) (m : Nat) (mm : List (Int × Bool)) : List Lx.Item := [oI gb 76 [vI ((p.next.length : Nat) : Int), (.func (.func 77) #[] #[(.pointer (aD gx))])], oI pb 25 (pC p k), oI fb 78 [(.func (.func 52) #[] #[(.pointer (aD gb)), (.pointer (aD pb)), (.pointer (aD fb)), (.pointer (aD ob))])], oI ob 23 [(.slice rb p.next.length rc)], oI gx 25 (pC p k), rowI rb rc 3 1 (nats o), mapI KIn Value.bool m mm]
theorem reduceF (base : World) [Tab Tryd.prog base] (p : Par) (k : DK) (h : AtP base p k) (hp : ValidP p) (gb pb fb ob gx : Nat) (rb : Option Addr) (rc : Nat) :
  ∀ (N : Nat) (mm : List (Int × Bool)) (m : Nat) (o : List Nat) (hN : cardS p.next.length (fun u => inM mm u = true) = N) (hS : ∀ u, inM mm u = true → u < p.next.length) (hol : o.length = p.next.length) (h0 : ∀ u, inM mm u = true → fn o u = 0),
  CallT Tryd.prog base 52 [(.map (some m)), (.pointer (aD gb)), (.pointer (aD pb)), (.pointer (aD fb)), (.pointer (aD ob))] (redO p k gb pb fb ob gx rb rc o m mm) (fun v O' => ∃ o2 most, v = vI ((most : Nat) : Int) ∧ O' = redO p k gb pb fb ob gx rb rc o2 m mm ∧ o2.length = p.next.length ∧ RedE (DE p.d) (prN p) (fun u => inM mm u = true) (fn o) (fn o2) most) := by
 intro N
 induction N using Nat.strongRecOn with
 | _ N ih => ?_
 intro mm m o hN hS hol h0
 refine CallT.enter func52 rfl ntmps52 rfl ?_
 have hn4 := hp.n4
 refine T.s (T.rg (TO.l rfl (l_box (v := (.map (some m))) (cs := [(.map (some m))]) rfl rfl (fun z1 => ?_))))
 refine TO.qa rfl (TO.nl (T.s (T.s (T.rg (TO.q (q_la 1 underlying76 rfl inf76 rfl rfl rfl) (TO.q (q_makeFunc) ?_))))))
 have hk20 := CallT.atR (O := [oI z1 79 [(.map (some m))], oI gb 76 [vI ((p.next.length : Nat) : Int), (.func (.func 77) #[] #[(.pointer (aD gx))])], oI pb 25 (pC p k), oI fb 78 [(.func (.func 52) #[] #[(.pointer (aD gb)), (.pointer (aD pb)), (.pointer (aD fb)), (.pointer (aD ob))])], oI ob 23 [(.slice rb p.next.length rc)], oI gx 25 (pC p k), rowI rb rc 3 1 (nats o), mapI KIn Value.bool m mm]) [oI gb 76 [vI ((p.next.length : Nat) : Int), (.func (.func 77) #[] #[(.pointer (aD gx))])], oI pb 25 (pC p k), oI fb 78 [(.func (.func 52) #[] #[(.pointer (aD gb)), (.pointer (aD pb)), (.pointer (aD fb)), (.pointer (aD ob))])], oI ob 23 [(.slice rb p.next.length rc)], rowI rb rc 3 1 (nats o)] (componentsC base p k h hp.val hp.n4 hp.letN6 (DE_lt hp.val) [oI z1 79 [(.map (some m))], mapI KIn Value.bool m mm] (inM mm) (.func (.func 54) #[] #[(.pointer (aD z1))]) rfl (fun u hu => CallV.of_fn (first := []) (args := [vI ((u : Nat) : Int)]) (caps := [(.pointer (aD z1))]) ent54 (setF base z1 m mm u)) gx) (by exact Sub.pull [oI z1 79 [(.map (some m))]] _ (.pull [oI z1 79 [(.map (some m))]] _ (.pull [oI z1 79 [(.map (some m))]] _ (.pull [oI z1 79 [(.map (some m))]] _ (.pull [oI z1 79 [(.map (some m))], oI gx 25 (pC p k)] _ (.pull [oI z1 79 [(.map (some m))]] _ (.k (.k .z))))))))
 refine TO.l rfl (l_call ent53 hk20 rfl ?_)
 clear hk20
 rintro vr O' ⟨A1, rfl, all, ab, ac, ps, rfl, rfl, hps, hpo⟩
 have hpl := parts_len hps
 have hfew := hpo.few
 refine TO.q (q_len underlying22 rfl) (TO.qm rfl (TO.nl (T.block ?_)))
 refine T.loopS (fun (i : Nat) ρ O => ∃ (o2 : List Nat) (most : Nat), O = ([oI gb 76 [vI ((p.next.length : Nat) : Int), (.func (.func 77) #[] #[(.pointer (aD gx))])], oI pb 25 (pC p k), oI fb 78 [(.func (.func 52) #[] #[(.pointer (aD gb)), (.pointer (aD pb)), (.pointer (aD fb)), (.pointer (aD ob))])], oI ob 23 [(.slice rb p.next.length rc)], rowI rb rc 3 1 (nats o2), rowI ab ac 23 1 (vals ps), oI gx 25 (pC p k), oI z1 79 [(.map (some m))], mapI KIn Value.bool m mm] ++ (itms 3 ps)) ∧ i ≤ all.length ∧ most ≤ 17 ∧ o2.length = p.next.length ∧ RedI (DE p.d) (prN p) (fn o) (fn o2) (all.take i) most ∧ Heads [(0, (.map (some m))), (1, (.pointer (aD gb))), (2, (.pointer (aD pb))), (3, (.pointer (aD fb))), (4, (.pointer (aD ob))), (5, (.pointer (aD z1))), (6, vI ((most : Nat) : Int)), (20, (.slice ab ps.length ac)), (21, vI (ps.length : Int)), (22, vI ((i : Nat) : Int))] ρ) (fun i => all.length - i) 0 ?_ ?_
 ·exact ⟨o, 0, rfl, Nat.zero_le _, Nat.zero_le _, hol, RedI.start _ _ _, (.of rfl)⟩
 rintro i ρ O ⟨o2, most, rfl, hi, hmo, hol2, hRI, hH⟩
 obtain ⟨ρ0, rfl⟩ := hH.elim
 clear hH
 refine T.s (T.rg (TO.q (q_lss rfl rfl) (TO.nl (T.s (T.condP rfl (fun hc => ?_) (fun hc => ?_))))))
 ·have hlt23 : i < ps.length := by omega
  have hil : i < all.length := by omega
  obtain ⟨l, hle⟩ : ∃ l, all[i] = l := ⟨_, rfl⟩
  obtain ⟨rb9, rc9, hRi⟩ := part_rec hps hil
  rw [hle] at hRi
  have hi2 : i < ps.length := by omega
  have hlm : l ∈ all := hle ▸ List.getElem_mem hil
  have hln := hpo.ne l hlm
  have hsub := hpo.sub l hlm
  have hmxl := mxP_is (pr := prN p) hln
  have hdj : ∀ Q ∈ all.take i, ∀ v ∈ Q, v ∉ l := fun Q hQ v hv => hle ▸ take_disj hpo.nd hil Q hQ v hv
  have hll : l.length ≤ 4096 := by
   have h1 := hpo.len
   have h2 : l.length ≤ all.flatten.length := (List.sublist_flatten_of_mem hlm).length_le
   omega
  refine T.skip (T.s (T.block (T.s (T.rg (TO.q (q_ix (i := i) underlying22 inf23 rfl rfl (rowO (mG 5 rfl)) hi2 (by rw [List.length_map]; exact hi2)) (TO.q (q_ld underlying23 rfl rfl (rowO (mG 5 rfl)) (part_val hRi)) (TO.qa rfl (TO.nl (T.s (T.rg (TO.qa rfl (TO.nl (T.s (T.s (T.rg (TO.qm rfl (TO.q (q_len underlying23 rfl) (TO.qm rfl (TO.nl (T.block ?_))))))))))))))))))))
  refine T.loop (fun (j2 : Nat) ρ O => O = ([oI gb 76 [vI ((p.next.length : Nat) : Int), (.func (.func 77) #[] #[(.pointer (aD gx))])], oI pb 25 (pC p k), oI fb 78 [(.func (.func 52) #[] #[(.pointer (aD gb)), (.pointer (aD pb)), (.pointer (aD fb)), (.pointer (aD ob))])], oI ob 23 [(.slice rb p.next.length rc)], rowI rb rc 3 1 (nats o2), rowI ab ac 23 1 (vals ps), oI gx 25 (pC p k), oI z1 79 [(.map (some m))], mapI KIn Value.bool m mm] ++ (itms 3 ps)) ∧ j2 ≤ l.length ∧ Heads [(0, (.map (some m))), (1, (.pointer (aD gb))), (2, (.pointer (aD pb))), (3, (.pointer (aD fb))), (4, (.pointer (aD ob))), (5, (.pointer (aD z1))), (6, vI ((most : Nat) : Int)), (8, (.slice rb9 l.length rc9)), (9, vI ((mxP (prN p) (l.take j2) : Nat) : Int)), (20, (.slice ab ps.length ac)), (21, vI (ps.length : Int)), (22, vI ((i : Nat) : Int)), (26, (.slice rb9 l.length rc9)), (27, vI (l.length : Int)), (28, vI ((j2 : Nat) : Int))] ρ) (fun j2 => l.length - j2) 0 ?_ ?_
  ·exact ⟨rfl, Nat.zero_le _, (.of rfl)⟩
  rintro j2 ρ O ⟨rfl, hj2, hH⟩
  obtain ⟨ρ0, rfl⟩ := hH.elim
  clear hH
  refine T.s (T.rg (TO.q (q_lss rfl rfl) (TO.nl (T.s (T.condP rfl (fun hc => ?_) (fun hc => ?_))))))
  ·have hlt29 : j2 < l.length := by omega
   have hjl2 : j2 < l.length := by omega
   obtain ⟨hjn, hjS⟩ := hsub _ (List.getElem_mem hjl2)
   have hjp : l[j2] < p.prio.length := by rw [hp.pl]; exact hjn
   have hpb := hp.prLe l[j2]
   refine T.skip (T.s (T.block (T.s (T.rg (TO.q (q_ix (i := j2) underlying23 inf3 rfl rfl (fun w9 hI9 => hI9.slOf (List.mem_append_right _ (part_row hRi))) hjl2 (by rw [List.length_map]; exact hjl2)) (TO.q (q_ld underlying3 rfl rfl (fun w9 hI9 => hI9.slOf (List.mem_append_right _ (part_row hRi))) (nats_get hjl2)) (TO.qa rfl (TO.nl (T.rg (TO.qm rfl (TO.q (q_fa underlying25 rfl inf23 rfl rfl) (TO.q (q_lb 1 underlying23 rfl rfl rfl rfl) (TO.qm rfl ?_)))))))))))))
   refine TO.q (q_ix (i := l[j2]) underlying23 inf3 rfl rfl (Sl.o h.prio) hjp (by rw [List.length_map]; exact hjp)) (TO.q (q_ld underlying3 rfl rfl (Sl.o h.prio) (by rw [ints, List.getElem?_map, hp.prAt hjn]; rfl)) (TO.q (q_maxN (a := (mxP (prN p) (l.take j2))) (b := (prN p l[j2])) rfl rfl) (TO.qa rfl ?_)))
   refine TO.nl (T.rg (TO.q (q_addN (a := j2) (b := 1) rfl rfl (by omega)) (TO.qm rfl (TO.nl ?_))))
   exact ⟨j2 + 1, by omega, rfl, by omega, ⟨rfl, rfl, rfl, rfl, rfl, rfl, rfl, rfl, (by rw [mxP_take hjl2]; rfl), rfl, rfl, rfl, rfl, rfl, rfl, trivial⟩⟩
  have hge29 : ¬ j2 < l.length := by omega
  refine T.exit ?_
  refine T.s (T.rg (TO.l rfl (l_makeMap KIn Value.bool (fun mq2 => ?_))))
  refine TO.qa rfl (TO.nl (T.s (T.s (T.rg (TO.qm rfl (TO.q (q_len underlying23 rfl) (TO.qm rfl (TO.nl (T.block ?_)))))))))
  refine T.loopS (fun (j : Nat) ρ O => ∃ (mr : List (Int × Bool)), O = ([mapI KIn Value.bool mq2 mr, oI gb 76 [vI ((p.next.length : Nat) : Int), (.func (.func 77) #[] #[(.pointer (aD gx))])], oI pb 25 (pC p k), oI fb 78 [(.func (.func 52) #[] #[(.pointer (aD gb)), (.pointer (aD pb)), (.pointer (aD fb)), (.pointer (aD ob))])], oI ob 23 [(.slice rb p.next.length rc)], rowI rb rc 3 1 (nats o2), rowI ab ac 23 1 (vals ps), oI gx 25 (pC p k), oI z1 79 [(.map (some m))], mapI KIn Value.bool m mm] ++ (itms 3 ps)) ∧ j ≤ l.length ∧ (∀ u, inM mr u = decide (u ∈ l.take j ∧ prN p u < mxP (prN p) (l.take j2))) ∧ Heads [(0, (.map (some m))), (1, (.pointer (aD gb))), (2, (.pointer (aD pb))), (3, (.pointer (aD fb))), (4, (.pointer (aD ob))), (5, (.pointer (aD z1))), (6, vI ((most : Nat) : Int)), (8, (.slice rb9 l.length rc9)), (9, vI ((mxP (prN p) (l.take j2) : Nat) : Int)), (12, (.map (some mq2))), (20, (.slice ab ps.length ac)), (21, vI (ps.length : Int)), (22, vI ((i : Nat) : Int)), (41, (.slice rb9 l.length rc9)), (42, vI (l.length : Int)), (43, vI ((j : Nat) : Int))] ρ) (fun j => l.length - j) 0 ?_ ?_
  ·exact ⟨[], rfl, Nat.zero_le _, (fun u => by simp [inM_nil]), (.of rfl)⟩
  rintro j ρ O ⟨mr, rfl, hj, hmr, hH⟩
  obtain ⟨ρ0, rfl⟩ := hH.elim
  clear hH
  refine T.s (T.rg (TO.q (q_lss rfl rfl) (TO.nl (T.s (T.condP rfl (fun hc => ?_) (fun hc => ?_))))))
  ·have hlt44 : j < l.length := by omega
   have hjl : j < l.length := by omega
   obtain ⟨hjn, hjS⟩ := hsub _ (List.getElem_mem hjl)
   have hjp : l[j] < p.prio.length := by rw [hp.pl]; exact hjn
   have hpb := hp.prLe l[j]
   refine T.skip (T.s (T.block (T.s (T.rg (TO.q (q_ix (i := j) underlying23 inf3 rfl rfl (fun w9 hI9 => hI9.slOf (List.mem_append_right _ (part_row hRi))) hjl (by rw [List.length_map]; exact hjl)) (TO.q (q_ld underlying3 rfl rfl (fun w9 hI9 => hI9.slOf (List.mem_append_right _ (part_row hRi))) (nats_get hjl)) (TO.qa rfl (TO.nl (T.s (T.rg (TO.q (q_fa underlying25 rfl inf23 rfl rfl) (TO.q (q_lb 2 underlying23 rfl rfl rfl rfl) (TO.qm rfl (TO.q (q_ix (i := l[j]) underlying23 inf3 rfl rfl (Sl.o h.prio) hjp (by rw [List.length_map]; exact hjp)) ?_))))))))))))))
   refine TO.q (q_ld underlying3 rfl rfl (Sl.o h.prio) (by rw [ints, List.getElem?_map, hp.prAt hjn]; rfl)) (TO.qm rfl (TO.q (q_lss rfl rfl) ?_))
   refine TO.nl (T.condP rfl (fun hc => ?_) (fun hc => ?_))
   ·have hlt53 : prN p l[j] < mxP (prN p) (l.take j2) := by omega
    refine T.rg (TO.qm rfl (TO.qm rfl (TO.l rfl (l_mapPutA (K := KIn) (V := Value.bool) (a := ((l[j] : Nat) : Int)) (v := true) 0 underlying79 (KeyOk.int underlying3) (sbY _) rfl rfl rfl rfl ?_))))
    refine TO.nl (T.rg (TO.q (q_addN (a := j) (b := 1) rfl rfl (by omega)) (TO.qm rfl (TO.nl ?_))))
    exact ⟨j + 1, by omega, ([mapI KIn Value.bool mq2 (putA ((l[j] : Nat) : Int) true mr), oI gb 76 [vI ((p.next.length : Nat) : Int), (.func (.func 77) #[] #[(.pointer (aD gx))])], oI pb 25 (pC p k), oI fb 78 [(.func (.func 52) #[] #[(.pointer (aD gb)), (.pointer (aD pb)), (.pointer (aD fb)), (.pointer (aD ob))])], oI ob 23 [(.slice rb p.next.length rc)], rowI rb rc 3 1 (nats o2), rowI ab ac 23 1 (vals ps), oI gx 25 (pC p k), oI z1 79 [(.map (some m))], mapI KIn Value.bool m mm] ++ (itms 3 ps)), (by exact Sub.rf), putA ((l[j] : Nat) : Int) true mr, rfl, by omega, inM_rest hjl hmr hlt53, (.of rfl)⟩
   have hge53 : ¬ prN p l[j] < mxP (prN p) (l.take j2) := by omega
   refine T.skip (T.rg (TO.q (q_addN (a := j) (b := 1) rfl rfl (by omega)) (TO.qm rfl (TO.nl ?_))))
   exact ⟨j + 1, by omega, ([mapI KIn Value.bool mq2 mr, oI gb 76 [vI ((p.next.length : Nat) : Int), (.func (.func 77) #[] #[(.pointer (aD gx))])], oI pb 25 (pC p k), oI fb 78 [(.func (.func 52) #[] #[(.pointer (aD gb)), (.pointer (aD pb)), (.pointer (aD fb)), (.pointer (aD ob))])], oI ob 23 [(.slice rb p.next.length rc)], rowI rb rc 3 1 (nats o2), rowI ab ac 23 1 (vals ps), oI gx 25 (pC p k), oI z1 79 [(.map (some m))], mapI KIn Value.bool m mm] ++ (itms 3 ps)), (by exact Sub.rf), mr, rfl, by omega, inM_skip hjl hmr hge53, (.of rfl)⟩
  have hge44 : ¬ j < l.length := by omega
  refine T.exit ?_
  refine T.s ?_
  have hj2e : l.take j2 = l := List.take_of_length_le (by omega)
  have hjle : l.take j = l := List.take_of_length_le (by omega)
  have hmr2 : ∀ u, inM mr u = true ↔ u ∈ l ∧ prN p u < mxP (prN p) (l.take j2) := fun u => by rw [hmr u, decide_eq_true_eq, hjle]
  have hrest2 : (fun u => inM mr u = true) = fun u => u ∈ l ∧ prN p u < mxP (prN p) (l.take j2) := funext fun u => propext (hmr2 u)
  have hSr : ∀ u, inM mr u = true → u < p.next.length := fun u hu => (hsub u ((hmr2 u).1 hu).1).1
  have h0r : ∀ u, inM mr u = true → fn o2 u = 0 := fun u hu => by
   rw [hRI.out u (fun Q hQ hm9 => hdj Q hQ u hm9 ((hmr2 u).1 hu).1)]
   exact h0 u (hsub u ((hmr2 u).1 hu).1).2
  have hless : cardS p.next.length (fun u => inM mr u = true) < N := by
   rw [← hN]
   obtain ⟨u9, hu9, hue⟩ := hmxl.1
   exact cardS_lt (fun u hu => (hsub u ((hmr2 u).1 hu).1).2) (hsub u9 hu9).1 (hsub u9 hu9).2 (fun g => by have g2 := ((hmr2 u9).1 g).2; rw [hj2e] at g2; omega)
  refine T.rg (TO.q (q_lb 3 underlying78 rfl rfl rfl rfl) (TO.qm rfl ?_))
  have hk59 := CallV.under (A := [oI gb 76 [vI ((p.next.length : Nat) : Int), (.func (.func 77) #[] #[(.pointer (aD gx))])], oI pb 25 (pC p k), oI fb 78 [(.func (.func 52) #[] #[(.pointer (aD gb)), (.pointer (aD pb)), (.pointer (aD fb)), (.pointer (aD ob))])], oI ob 23 [(.slice rb p.next.length rc)], oI gx 25 (pC p k), rowI rb rc 3 1 (nats o2), mapI KIn Value.bool mq2 mr]) (B := [rowI ab ac 23 1 (vals ps), oI z1 79 [(.map (some m))], mapI KIn Value.bool m mm] ++ (itms 3 ps)) (O := ([mapI KIn Value.bool mq2 mr, oI gb 76 [vI ((p.next.length : Nat) : Int), (.func (.func 77) #[] #[(.pointer (aD gx))])], oI pb 25 (pC p k), oI fb 78 [(.func (.func 52) #[] #[(.pointer (aD gb)), (.pointer (aD pb)), (.pointer (aD fb)), (.pointer (aD ob))])], oI ob 23 [(.slice rb p.next.length rc)], rowI rb rc 3 1 (nats o2), rowI ab ac 23 1 (vals ps), oI gx 25 (pC p k), oI z1 79 [(.map (some m))], mapI KIn Value.bool m mm] ++ (itms 3 ps))) (CallV.of_fn (first := []) (args := [(.map (some mq2))]) (caps := [(.pointer (aD gb)), (.pointer (aD pb)), (.pointer (aD fb)), (.pointer (aD ob))]) ent52 (ih _ hless mr mq2 o2 rfl hSr hol2 h0r)) (by exact Sub.pull [mapI KIn Value.bool mq2 mr] _ (.pull [mapI KIn Value.bool mq2 mr] _ (.pull [mapI KIn Value.bool mq2 mr] _ (.pull [mapI KIn Value.bool mq2 mr] _ (.pull [mapI KIn Value.bool mq2 mr, rowI rb rc 3 1 (nats o2), rowI ab ac 23 1 (vals ps)] _ (.pull [mapI KIn Value.bool mq2 mr] _ (.k (.k (.k (.k .rf))))))))))
  refine TO.l rfl (l_callG hk59 rfl rfl ?_)
  clear hk59
  rintro vr O' ⟨A1, rfl, o3, k3, rfl, rfl, hol3, hrE⟩
  have hk3 : k3 ≤ 16 := hrE.le hSr hp.prLe
  have hm16 : mxP (prN p) (l.take j2) ≤ 16 := mxP_le hp.prLe _
  refine TO.qa rfl (TO.nl (T.s (T.rg (TO.qm rfl (TO.qm rfl (TO.qm rfl (TO.q (q_addN (a := k3) (b := (mxP (prN p) (l.take j2))) rfl rfl (by omega)) (TO.q (q_remN (a := (k3 + (mxP (prN p) (l.take j2)))) (b := 2) rfl rfl (by omega)) (TO.q (q_addN (a := k3) (b := ((k3 + (mxP (prN p) (l.take j2))) % 2)) rfl rfl (by omega)) (TO.qa rfl (TO.nl (T.s (T.s (T.rg (TO.qm rfl (TO.q (q_len underlying23 rfl) (TO.qm rfl (TO.nl (T.block ?_)))))))))))))))))))
  refine T.loopS (fun (j4 : Nat) ρ O => ∃ (o4 : List Nat), O = ([oI gb 76 [vI ((p.next.length : Nat) : Int), (.func (.func 77) #[] #[(.pointer (aD gx))])], oI pb 25 (pC p k), oI fb 78 [(.func (.func 52) #[] #[(.pointer (aD gb)), (.pointer (aD pb)), (.pointer (aD fb)), (.pointer (aD ob))])], oI ob 23 [(.slice rb p.next.length rc)], oI gx 25 (pC p k), rowI rb rc 3 1 (nats o4), mapI KIn Value.bool mq2 mr, rowI ab ac 23 1 (vals ps), oI z1 79 [(.map (some m))], mapI KIn Value.bool m mm] ++ (itms 3 ps)) ∧ j4 ≤ l.length ∧ o4.length = p.next.length ∧ (∀ u, fn o4 u = if u ∈ l.take j4 ∧ ¬ prN p u < mxP (prN p) (l.take j2) then k3 + (k3 + mxP (prN p) (l.take j2)) % 2 else fn o3 u) ∧ Heads [(0, (.map (some m))), (1, (.pointer (aD gb))), (2, (.pointer (aD pb))), (3, (.pointer (aD fb))), (4, (.pointer (aD ob))), (5, (.pointer (aD z1))), (6, vI ((most : Nat) : Int)), (8, (.slice rb9 l.length rc9)), (9, vI ((mxP (prN p) (l.take j2) : Nat) : Int)), (12, (.map (some mq2))), (15, vI ((k3 + ((k3 + (mxP (prN p) (l.take j2))) % 2) : Nat) : Int)), (20, (.slice ab ps.length ac)), (21, vI (ps.length : Int)), (22, vI ((i : Nat) : Int)), (66, (.slice rb9 l.length rc9)), (67, vI (l.length : Int)), (68, vI ((j4 : Nat) : Int))] ρ) (fun j4 => l.length - j4) 0 ?_ ?_
  ·exact ⟨o3, rfl, Nat.zero_le _, hol3, (fun u => by simp), (.of rfl)⟩
  rintro j4 ρ O ⟨o4, rfl, hj4, hol4, hs4, hH⟩
  obtain ⟨ρ0, rfl⟩ := hH.elim
  clear hH
  refine T.s (T.rg (TO.q (q_lss rfl rfl) (TO.nl (T.s (T.condP rfl (fun hc => ?_) (fun hc => ?_))))))
  ·have hlt69 : j4 < l.length := by omega
   have hjl4 : j4 < l.length := by omega
   obtain ⟨hjn, hjS⟩ := hsub _ (List.getElem_mem hjl4)
   have hjp : l[j4] < p.prio.length := by rw [hp.pl]; exact hjn
   have hpb := hp.prLe l[j4]
   have hin4 : inM mr l[j4] = decide (prN p l[j4] < mxP (prN p) (l.take j2)) := by rw [hmr, hjle]; exact decide_eq_decide.2 ⟨fun g => g.2, fun g => ⟨List.getElem_mem hjl4, g⟩⟩
   refine T.skip (T.s (T.block (T.s (T.rg (TO.q (q_ix (i := j4) underlying23 inf3 rfl rfl (fun w9 hI9 => hI9.slOf (List.mem_append_right _ (part_row hRi))) hjl4 (by rw [List.length_map]; exact hjl4)) (TO.q (q_ld underlying3 rfl rfl (fun w9 hI9 => hI9.slOf (List.mem_append_right _ (part_row hRi))) (nats_get hjl4)) (TO.qa rfl (TO.nl (T.s (T.rg (TO.qm rfl (TO.qm rfl (TO.q (QT.cast (q_lookup (K := KIn) (V := Value.bool) (a := ((l[j4] : Nat) : Int)) underlying79 inf4 (KeyOk.int underlying3) rfl rfl (mG 6 rfl)) (v' := .bool (inM mr l[j4])) (by unfold inM; cases lookL ((l[j4] : Nat) : Int) mr with | none => rfl | some b => cases b <;> rfl)) (TO.q (q_not rfl) (TO.nl (T.condP (p := ¬ prN p l[j4] < mxP (prN p) (l.take j2)) (congrArg Value.bool (by rw [hin4, decide_not])) (fun hc => ?_) (fun hc => ?_)))))))))))))))))
   ·have hge75 : ¬ prN p l[j4] < mxP (prN p) (l.take j2) := hc
    refine T.rg (TO.q (q_lb 3 underlying23 rfl rfl rfl rfl) (TO.qm rfl (TO.qm rfl (TO.q (q_ix (i := l[j4]) underlying23 inf3 rfl rfl (rowO (mG 5 rfl)) hjn (by rw [List.length_map]; omega)) (TO.l rfl (l_st (j := l[j4]) (v := vI ((k3 + ((k3 + (mxP (prN p) (l.take j2))) % 2) : Nat) : Int)) (vs := [(vI ((k3 + ((k3 + (mxP (prN p) (l.take j2))) % 2) : Nat) : Int))]) (cs := nats o4) 5 inf3 rfl rfl rfl rfl rfl (by simp) rfl (by first | (simp; omega) | (simp_all; omega)) ?_))))))
    refine TO.sub (O' := ([oI gb 76 [vI ((p.next.length : Nat) : Int), (.func (.func 77) #[] #[(.pointer (aD gx))])], oI pb 25 (pC p k), oI fb 78 [(.func (.func 52) #[] #[(.pointer (aD gb)), (.pointer (aD pb)), (.pointer (aD fb)), (.pointer (aD ob))])], oI ob 23 [(.slice rb p.next.length rc)], oI gx 25 (pC p k), rowI rb rc 3 1 (nats (o4.set l[j4] (k3 + (k3 + mxP (prN p) (l.take j2)) % 2))), mapI KIn Value.bool mq2 mr, rowI ab ac 23 1 (vals ps), oI z1 79 [(.map (some m))], mapI KIn Value.bool m mm] ++ (itms 3 ps))) (by rw [show putL (nats o4) l[j4] [(vI ((k3 + ((k3 + (mxP (prN p) (l.take j2))) % 2) : Nat) : Int))] = nats (o4.set l[j4] (k3 + (k3 + mxP (prN p) (l.take j2)) % 2)) from (by simp [putL])]; exact Sub.of (List.Sublist.refl _)) ?_
    refine TO.nl (T.rg (TO.q (q_addN (a := j4) (b := 1) rfl rfl (by omega)) (TO.qm rfl (TO.nl ?_))))
    exact ⟨j4 + 1, by omega, ([oI gb 76 [vI ((p.next.length : Nat) : Int), (.func (.func 77) #[] #[(.pointer (aD gx))])], oI pb 25 (pC p k), oI fb 78 [(.func (.func 52) #[] #[(.pointer (aD gb)), (.pointer (aD pb)), (.pointer (aD fb)), (.pointer (aD ob))])], oI ob 23 [(.slice rb p.next.length rc)], oI gx 25 (pC p k), rowI rb rc 3 1 (nats (o4.set l[j4] (k3 + (k3 + mxP (prN p) (l.take j2)) % 2))), mapI KIn Value.bool mq2 mr, rowI ab ac 23 1 (vals ps), oI z1 79 [(.map (some m))], mapI KIn Value.bool m mm] ++ (itms 3 ps)), (by exact Sub.rf), o4.set l[j4] (k3 + (k3 + mxP (prN p) (l.take j2)) % 2), rfl, by omega, by simp [hol4], top_set hjl4 (by omega) hs4 hge75, (.of rfl)⟩
   have hlt75 : prN p l[j4] < mxP (prN p) (l.take j2) := Classical.not_not.1 hc
   refine T.skip (T.rg (TO.q (q_addN (a := j4) (b := 1) rfl rfl (by omega)) (TO.qm rfl (TO.nl ?_))))
   exact ⟨j4 + 1, by omega, ([oI gb 76 [vI ((p.next.length : Nat) : Int), (.func (.func 77) #[] #[(.pointer (aD gx))])], oI pb 25 (pC p k), oI fb 78 [(.func (.func 52) #[] #[(.pointer (aD gb)), (.pointer (aD pb)), (.pointer (aD fb)), (.pointer (aD ob))])], oI ob 23 [(.slice rb p.next.length rc)], oI gx 25 (pC p k), rowI rb rc 3 1 (nats o4), mapI KIn Value.bool mq2 mr, rowI ab ac 23 1 (vals ps), oI z1 79 [(.map (some m))], mapI KIn Value.bool m mm] ++ (itms 3 ps)), (by exact Sub.rf), o4, rfl, by omega, hol4, top_skip hjl4 hs4 hlt75, (.of rfl)⟩
  have hge69 : ¬ j4 < l.length := by omega
  refine T.exit ?_
  have hj4e : l.take j4 = l := List.take_of_length_le (by omega)
  refine T.rg (TO.qm rfl (TO.qm rfl (TO.q (q_maxN (a := most) (b := (k3 + ((k3 + (mxP (prN p) (l.take j2))) % 2))) rfl rfl) (TO.qa rfl (TO.nl (T.rg (TO.q (q_addN (a := i) (b := 1) rfl rfl (by omega)) (TO.qm rfl (TO.nl ?_)))))))))
  refine ⟨i + 1, by omega, ([oI gb 76 [vI ((p.next.length : Nat) : Int), (.func (.func 77) #[] #[(.pointer (aD gx))])], oI pb 25 (pC p k), oI fb 78 [(.func (.func 52) #[] #[(.pointer (aD gb)), (.pointer (aD pb)), (.pointer (aD fb)), (.pointer (aD ob))])], oI ob 23 [(.slice rb p.next.length rc)], rowI rb rc 3 1 (nats o4), rowI ab ac 23 1 (vals ps), oI gx 25 (pC p k), oI z1 79 [(.map (some m))], mapI KIn Value.bool m mm] ++ (itms 3 ps)), (by exact Sub.k (.k (.k (.k (.pull [oI gx 25 (pC p k)] _ (.pull [oI gx 25 (pC p k), mapI KIn Value.bool mq2 mr] _ (.k (.d (.k (.k .rf)))))))))), o4, max most (k3 + (k3 + mxP (prN p) (l.take j2)) % 2), rfl, by omega, by omega, hol4, ?_, (.of rfl)⟩
  rw [List.take_succ_eq_append_getElem hil, hle]
  rw [hj4e] at hs4
  exact hRI.step hdj (show IsMax (prN p) (fun u => u ∈ l) (mxP (prN p) (l.take j2)) by rw [hj2e]; exact hmxl) (by rw [← hrest2]; exact hrE.red) (fun v hv => hrE.out v (fun g => hv ((hmr2 v).1 g))) (by rw [← hrest2]; exact hrE.max) hs4
 have hge23 : ¬ i < ps.length := by omega
 refine T.exit ?_
 refine T.s (T.rg (TO.qm rfl (TO.qa rfl (TO.nl (T.ret (Res.drop ?_))))))
 refine Res.one (vI ((most : Nat) : Int)) Tryd.results52 rfl ?_
 have hie : all.take i = all := List.take_of_length_le (by omega)
 rw [hie] at hRI
 exact ⟨[oI gb 76 [vI ((p.next.length : Nat) : Int), (.func (.func 77) #[] #[(.pointer (aD gx))])], oI pb 25 (pC p k), oI fb 78 [(.func (.func 52) #[] #[(.pointer (aD gb)), (.pointer (aD pb)), (.pointer (aD fb)), (.pointer (aD ob))])], oI ob 23 [(.slice rb p.next.length rc)], oI gx 25 (pC p k), rowI rb rc 3 1 (nats o2), mapI KIn Value.bool m mm], (by exact Sub.k (.k (.k (.k (.pull [rowI rb rc 3 1 (nats o2), rowI ab ac 23 1 (vals ps)] _ (.k (.d (.d (.k .z))))))))), o2, most, rfl, rfl, hol2, hRI.done hpo hS h0⟩
end Go.Proofs.YtnikhiohindggaaDoor


namespace Go.Proofs.YtnikhiohindggaaDoor
open Go.Lx Go.RowKit _root_.Go.Proofs.Tryd
theorem parRd (w : World) [Tab Tryd.prog w] (p : Par) (k : DK) (h : AtP w p k) (hB : ParC p) :
  PureT Tryd.prog 25 [pV p k] w fun v N => ∃ k9 : DK, v = .tuple #[pV (rdV p) k9, vI (checkP p : Int)] ∧ N = [pI 23 3 (rdV p) k9] := by
 refine CallT.enter func25 rfl ntmps25 rfl ?_
 have hBn := hB.n; have hBf := hB.f
 refine T.s (T.rg (TO.l rfl (l_box (v := (pV p k)) (cs := (pC p k)) rfl rfl (fun z1 => ?_))))
 refine TO.l rfl (l_alloc inf25 rfl (fun z2 => ?_))
 refine TO.qa rfl (TO.nl (T.s (T.s (T.rg (TO.q (q_la 1 underlying25 rfl inf25 rfl rfl rfl) ?_)))))
 have hk11 := fun (w1 : World) (hI : Inv w [oI z2 25 [(vI 0), (vI 0), nS, nS], oI z1 25 (pC p k)] w1) => (haveI := Inv.tab (P := Tryd.prog) hI; parCheck w1 p k (hI.atQ h) hB)
 refine TO.l rfl (l_call ent20 (CallT.op hk11) rfl ?_)
 clear hk11
 rintro vr O' ⟨N, rfl, rfl, rfl⟩
 refine TO.qa rfl (TO.nl (T.s (T.rg (TO.qm rfl (TO.q (q_neq rfl rfl) (TO.nl (T.condP rfl (fun hc => ?_) (fun hc => ?_))))))))
 ·have hlt13 : checkP p ≠ 0 := by omega
  refine T.s ?_
  refine T.nilP 23 3 ?_
  refine T.rg (TO.q (q_build plan25 inf25 rfl) (TO.qm rfl (TO.l rfl (l_sb (v := (.agg #[(vI 0), (vI 0), nS, nS])) (vs := [(vI 0), (vI 0), nS, nS]) 1 inf25 rfl rfl rfl rfl rfl rfl (by simp [putL]) ?_))))
  refine TO.qa rfl (TO.nl (T.ret (Res.drop ?_)))
  refine Res.cell1b (vI (checkP p : Int)) (i := 1) Tryd.results25 underlying25 rfl inf25 rfl rfl rfl rfl ?_
  rw [rdV_no (by omega)]
  exact ⟨[pI 23 3 noP k00], (by exact Sub.k .z), k00, rfl, rfl⟩
 have hge13 : ¬ checkP p ≠ 0 := by omega
 have he0 : checkP p = 0 := by omega
 have hv : ValidP p := checkP_zero.1 he0
 have hn4 := hv.n4
 refine T.skip (T.s (T.rg (TO.q (q_fa underlying25 rfl inf22 rfl rfl) (TO.q (q_lb 1 underlying22 rfl rfl rfl rfl) (TO.q (q_len underlying22 rfl) (TO.l rfl (l_makeSlice (m := p.next.length) underlying23 inf3 rfl rfl (by omega) (by omega) (fun z3 => ?_))))))))
 refine TO.l rfl (l_alloc inf23 rfl (fun z4 => ?_))
 refine TO.l rfl (l_sb (v := (.slice (aD z3) p.next.length p.next.length)) (vs := [(.slice (aD z3) p.next.length p.next.length)]) 0 inf23 rfl rfl rfl rfl rfl rfl (by simp [putL]) ?_)
 refine TO.nl (T.s (T.rg (TO.q (q_la 3 underlying25 rfl inf25 rfl rfl rfl) ?_)))
 have hk21 := fun (w1 : World) (hI : Inv w [oI z4 23 [(.slice (aD z3) p.next.length p.next.length)], rowI (aD z3) p.next.length 3 1 (List.replicate p.next.length (vI 0)), oI z2 25 [(vI 0), (vI 0), nS, nS], oI z1 25 (pC p k)] w1) => (haveI := Inv.tab (P := Tryd.prog) hI; ofC w1 p k)
 refine TO.l rfl (l_call ent51 (CallT.op hk21) rfl ?_)
 clear hk21
 rintro vr O' ⟨N, rfl, gx, rfl, rfl⟩
 refine TO.l rfl (l_alloc inf76 rfl (fun z5 => ?_))
 refine TO.l rfl (l_sb (v := (.agg #[vI ((p.next.length : Nat) : Int), (.func (.func 77) #[] #[(.pointer (aD gx))])])) (vs := [vI ((p.next.length : Nat) : Int), (.func (.func 77) #[] #[(.pointer (aD gx))])]) 0 inf76 rfl rfl rfl rfl rfl rfl (by simp [putL]) ?_)
 refine TO.nl (T.s (T.rg (TO.l rfl (l_alloc inf78 rfl (fun z6 => ?_)))))
 refine TO.nl (T.s (T.rg (TO.q (q_makeFunc) (TO.l rfl (l_sb (v := (.func (.func 52) #[] #[(.pointer (aD z5)), (.pointer (aD z1)), (.pointer (aD z6)), (.pointer (aD z4))])) (vs := [(.func (.func 52) #[] #[(.pointer (aD z5)), (.pointer (aD z1)), (.pointer (aD z6)), (.pointer (aD z4))])]) 0 inf78 rfl rfl rfl rfl rfl rfl (by simp [putL]) ?_)))))
 refine TO.nl (T.s (T.rg (TO.l rfl (l_makeMap KIn Value.bool (fun mq7 => ?_)))))
 refine TO.qa rfl (TO.nl (T.s (T.s (T.rg (TO.q (q_fa underlying25 rfl inf22 rfl rfl) (TO.q (q_lb 7 underlying22 rfl rfl rfl rfl) (TO.q (q_len underlying22 rfl) (TO.qm rfl (TO.nl (T.block ?_))))))))))
 refine T.loopS (fun (s : Nat) ρ O => ∃ (mm : List (Int × Bool)), O = [mapI KIn Value.bool mq7 mm, oI z6 78 [(.func (.func 52) #[] #[(.pointer (aD z5)), (.pointer (aD z1)), (.pointer (aD z6)), (.pointer (aD z4))])], oI z5 76 [vI ((p.next.length : Nat) : Int), (.func (.func 77) #[] #[(.pointer (aD gx))])], oI gx 25 (pC p k), oI z4 23 [(.slice (aD z3) p.next.length p.next.length)], rowI (aD z3) p.next.length 3 1 (List.replicate p.next.length (vI 0)), oI z2 25 [(vI 0), (vI 0), nS, nS], oI z1 25 (pC p k)] ∧ s ≤ p.next.length ∧ (∀ u, inM mm u = decide (u < s)) ∧ Heads [(0, (pV p k)), (1, (.pointer (aD z1))), (2, (.pointer (aD z2))), (3, vI 0), (4, vI (checkP p : Int)), (5, (.pointer (aD z4))), (6, (.pointer (aD z5))), (7, (.pointer (aD z6))), (8, (.map (some mq7))), (26, vI (p.next.length : Int)), (27, vI ((s : Nat) : Int))] ρ) (fun s => p.next.length - s) 0 ?_ ?_
 ·exact ⟨[], rfl, Nat.zero_le _, (fun u => by simp [inM_nil]), (.of rfl)⟩
 rintro s ρ O ⟨mm, rfl, hs, hmm, hH⟩
 obtain ⟨ρ0, rfl⟩ := hH.elim
 clear hH
 refine T.s (T.rg (TO.q (q_lss rfl rfl) (TO.nl (T.s (T.condP rfl (fun hc => ?_) (fun hc => ?_))))))
 ·have hlt28 : s < p.next.length := by omega
  refine T.skip (T.s (T.block (T.s (T.rg (TO.qm rfl (TO.qa rfl (TO.nl (T.rg (TO.qm rfl (TO.qm rfl (TO.l rfl (l_mapPutA (K := KIn) (V := Value.bool) (a := ((s : Nat) : Int)) (v := true) 0 underlying79 (KeyOk.int underlying3) (sbY _) rfl rfl rfl rfl ?_))))))))))))
  refine TO.nl (T.rg (TO.q (q_addN (a := s) (b := 1) rfl rfl (by omega)) (TO.qm rfl (TO.nl ?_))))
  exact ⟨s + 1, by omega, [mapI KIn Value.bool mq7 (putA ((s : Nat) : Int) true mm), oI z6 78 [(.func (.func 52) #[] #[(.pointer (aD z5)), (.pointer (aD z1)), (.pointer (aD z6)), (.pointer (aD z4))])], oI z5 76 [vI ((p.next.length : Nat) : Int), (.func (.func 77) #[] #[(.pointer (aD gx))])], oI gx 25 (pC p k), oI z4 23 [(.slice (aD z3) p.next.length p.next.length)], rowI (aD z3) p.next.length 3 1 (List.replicate p.next.length (vI 0)), oI z2 25 [(vI 0), (vI 0), nS, nS], oI z1 25 (pC p k)], (by exact Sub.rf), putA ((s : Nat) : Int) true mm, rfl, by omega, inM_lt hmm, (.of rfl)⟩
 have hge28 : ¬ s < p.next.length := by omega
 refine T.exit ?_
 refine T.s ?_
 have hse : s = p.next.length := by omega
 have hS0 : ∀ u, inM mm u = true → u < p.next.length := fun u hu => by rw [hmm u] at hu; have := of_decide_eq_true hu; omega
 refine T.sub (O' := [mapI KIn Value.bool mq7 mm, oI z6 78 [(.func (.func 52) #[] #[(.pointer (aD z5)), (.pointer (aD z1)), (.pointer (aD z6)), (.pointer (aD z4))])], oI z5 76 [vI ((p.next.length : Nat) : Int), (.func (.func 77) #[] #[(.pointer (aD gx))])], oI gx 25 (pC p k), oI z4 23 [(.slice (aD z3) p.next.length p.next.length)], rowI (aD z3) p.next.length 3 1 (nats (List.replicate p.next.length 0)), oI z2 25 [(vI 0), (vI 0), nS, nS], oI z1 25 (pC p k)]) (by rw [zeros_nats]; exact Sub.rf) ?_
 refine T.rg (TO.q (q_lb 1 underlying78 rfl rfl rfl rfl) (TO.qm rfl ?_))
 have hk35 := CallV.under (A := [oI z5 76 [vI ((p.next.length : Nat) : Int), (.func (.func 77) #[] #[(.pointer (aD gx))])], oI z1 25 (pC p k), oI z6 78 [(.func (.func 52) #[] #[(.pointer (aD z5)), (.pointer (aD z1)), (.pointer (aD z6)), (.pointer (aD z4))])], oI z4 23 [(.slice (aD z3) p.next.length p.next.length)], oI gx 25 (pC p k), rowI (aD z3) p.next.length 3 1 (nats (List.replicate p.next.length 0)), mapI KIn Value.bool mq7 mm]) (B := [oI z2 25 [(vI 0), (vI 0), nS, nS]]) (O := [mapI KIn Value.bool mq7 mm, oI z6 78 [(.func (.func 52) #[] #[(.pointer (aD z5)), (.pointer (aD z1)), (.pointer (aD z6)), (.pointer (aD z4))])], oI z5 76 [vI ((p.next.length : Nat) : Int), (.func (.func 77) #[] #[(.pointer (aD gx))])], oI gx 25 (pC p k), oI z4 23 [(.slice (aD z3) p.next.length p.next.length)], rowI (aD z3) p.next.length 3 1 (nats (List.replicate p.next.length 0)), oI z2 25 [(vI 0), (vI 0), nS, nS], oI z1 25 (pC p k)]) (CallV.of_fn (first := []) (args := [(.map (some mq7))]) (caps := [(.pointer (aD z5)), (.pointer (aD z1)), (.pointer (aD z6)), (.pointer (aD z4))]) ent52 (reduceF w p k h hv z5 z1 z6 z4 gx (aD z3) p.next.length _ mm mq7 (List.replicate p.next.length 0) rfl hS0 (by simp) (fun u _ => fn_zeros _ u))) (by exact Sub.pull [mapI KIn Value.bool mq7 mm, oI z6 78 [(.func (.func 52) #[] #[(.pointer (aD z5)), (.pointer (aD z1)), (.pointer (aD z6)), (.pointer (aD z4))])]] _ (.pull [mapI KIn Value.bool mq7 mm, oI z6 78 [(.func (.func 52) #[] #[(.pointer (aD z5)), (.pointer (aD z1)), (.pointer (aD z6)), (.pointer (aD z4))])], oI gx 25 (pC p k), oI z4 23 [(.slice (aD z3) p.next.length p.next.length)], rowI (aD z3) p.next.length 3 1 (nats (List.replicate p.next.length 0)), oI z2 25 [(vI 0), (vI 0), nS, nS]] _ (.pull [mapI KIn Value.bool mq7 mm] _ (.pull [mapI KIn Value.bool mq7 mm, oI gx 25 (pC p k)] _ (.pull [mapI KIn Value.bool mq7 mm] _ (.pull [mapI KIn Value.bool mq7 mm] _ (.k (.k .z))))))))
 refine TO.l rfl (l_callG hk35 rfl rfl ?_)
 clear hk35
 rintro vr O' ⟨A1, rfl, o2, most, rfl, rfl, hol2, hrE⟩
 obtain ⟨M, hM⟩ : ∃ m, withP p (fun s => ((fn o2 s : Nat) : Int)) = m := ⟨_, rfl⟩
 have hro : rdV p = M := (rdV_of he0 (hrE.of (fun v => ⟨hS0 v, fun hv9 => by rw [hmm v]; exact decide_eq_true (by omega)⟩))).trans hM
 refine TO.nl (T.s (T.rg (TO.q (q_la 1 underlying25 rfl inf25 rfl rfl rfl) (TO.q (q_makeFunc) ?_))))
 have hk38 := CallT.under (A := [oI z4 23 [(.slice (aD z3) p.next.length p.next.length)], rowI (aD z3) p.next.length 3 1 (nats o2)]) (B := [oI z5 76 [vI ((p.next.length : Nat) : Int), (.func (.func 77) #[] #[(.pointer (aD gx))])], oI z1 25 (pC p k), oI z6 78 [(.func (.func 52) #[] #[(.pointer (aD z5)), (.pointer (aD z1)), (.pointer (aD z6)), (.pointer (aD z4))])], oI gx 25 (pC p k), mapI KIn Value.bool mq7 mm, oI z2 25 [(vI 0), (vI 0), nS, nS]]) (O := [oI z5 76 [vI ((p.next.length : Nat) : Int), (.func (.func 77) #[] #[(.pointer (aD gx))])], oI z1 25 (pC p k), oI z6 78 [(.func (.func 52) #[] #[(.pointer (aD z5)), (.pointer (aD z1)), (.pointer (aD z6)), (.pointer (aD z4))])], oI z4 23 [(.slice (aD z3) p.next.length p.next.length)], oI gx 25 (pC p k), rowI (aD z3) p.next.length 3 1 (nats o2), mapI KIn Value.bool mq7 mm, oI z2 25 [(vI 0), (vI 0), nS, nS]]) (show CallT _ _ _ _ _ _ from by
   have h9 := withK w p k h hv [oI z4 23 [(.slice (aD z3) p.next.length p.next.length)], rowI (aD z3) p.next.length 3 1 (nats o2)] (.func (.func 55) #[] #[(.pointer (aD z4))]) (fun s => ((fn o2 s : Nat) : Int)) (fun s hs => CallV.of_fn (first := []) (args := [vI ((s : Nat) : Int)]) (caps := [(.pointer (aD z4))]) ent55 (outF w p.next.length z4 (aD z3) p.next.length o2 hol2 s hs))
   rw [hM] at h9
   exact h9) (by exact Sub.pull [oI z5 76 [vI ((p.next.length : Nat) : Int), (.func (.func 77) #[] #[(.pointer (aD gx))])], oI z1 25 (pC p k), oI z6 78 [(.func (.func 52) #[] #[(.pointer (aD z5)), (.pointer (aD z1)), (.pointer (aD z6)), (.pointer (aD z4))])]] _ (.pull [oI z5 76 [vI ((p.next.length : Nat) : Int), (.func (.func 77) #[] #[(.pointer (aD gx))])], oI z1 25 (pC p k), oI z6 78 [(.func (.func 52) #[] #[(.pointer (aD z5)), (.pointer (aD z1)), (.pointer (aD z6)), (.pointer (aD z4))])], oI gx 25 (pC p k)] _ (.k (.k (.k (.k (.k (.k .z))))))))
 refine TO.l rfl (l_call ent44 hk38 rfl ?_)
 clear hk38
 rintro vr O' ⟨A1, rfl, k1, rfl, rfl⟩
 refine TO.l rfl (l_sb (v := (pV M k1)) (vs := (pC M k1)) 8 inf25 rfl rfl rfl rfl rfl rfl (by simp [putL]) ?_)
 refine TO.qa rfl (TO.nl (T.ret (Res.drop ?_)))
 refine Res.cell1b (vI 0) (i := 8) Tryd.results25 underlying25 rfl inf25 rfl rfl rfl rfl ?_
 rw [hro, he0]
 exact ⟨[pI 23 3 M k1], (by exact Sub.k .z), k1, rfl, rfl⟩
theorem indexNo (w : World) [Tab Tryd.prog w] (b : Option Addr) (c : Nat) (l : List Nat) (h : Sl w b (nats l)) (hb : l.length < 1000000) (v : Nat) (hm : v ∉ l) :
  PureT Tryd.prog 80 [.slice b l.length c, vI ((v : Nat) : Int)] w fun r N => r = vI (-1) ∧ N = [] := by
 refine CallT.enter func80 rfl ntmps80 rfl ?_
 refine T.s (T.rg (TO.qa rfl (TO.nl (T.s (T.s (T.rg (TO.qm rfl (TO.q (q_len underlying23 rfl) (TO.qm rfl (TO.nl (T.block ?_)))))))))))
 refine T.loop (fun (i : Nat) ρ O => O = [] ∧ i ≤ l.length ∧ Heads [(0, (.slice b l.length c)), (1, vI ((v : Nat) : Int)), (7, vI (l.length : Int)), (8, vI ((i : Nat) : Int))] ρ) (fun i => l.length - i) 0 ?_ ?_
 ·exact ⟨rfl, Nat.zero_le _, ⟨rfl, rfl, rfl, rfl, trivial⟩⟩
 rintro i ρ O ⟨rfl, hi, hH⟩
 obtain ⟨ρ0, rfl⟩ := hH.elim
 clear hH
 refine T.s (T.rg (TO.q (q_lss rfl rfl) (TO.nl (T.s (T.condP rfl (fun hc => ?_) (fun hc => ?_))))))
 ·have hlt9 : i < l.length := by omega
  have hil : i < l.length := by omega
  have hne : l[i] ≠ v := fun e => hm (e ▸ List.getElem_mem hil)
  refine T.skip (T.s (T.block (T.s (T.rg (TO.qm rfl (TO.qa rfl (TO.nl (T.s (T.rg (TO.qm rfl (TO.qm rfl (TO.qm rfl (TO.q (q_ix (i := i) underlying23 inf3 rfl rfl (Sl.o h)) (TO.q (q_ld underlying3 rfl rfl (Sl.o h) nats_get) (TO.q (q_eql rfl rfl) (TO.nl (T.condP rfl (fun hc => ?_) (fun hc => ?_))))))))))))))))))
  ·have hlt16 : v = l[i] := by omega
   refine T.s (T.rg (TO.qm rfl (TO.qa rfl (TO.nl (T.ret (Res.drop ?_))))))
   refine Res.one (vI ((i : Nat) : Int)) Tryd.results80 rfl ?_
   exact absurd (show l[i] = v by omega) hne
  have hge16 : ¬ v = l[i] := by omega
  refine T.skip (T.rg (TO.q (q_addN (a := i) (b := 1) rfl rfl (by omega)) (TO.qm rfl (TO.nl ?_))))
  exact ⟨i + 1, by omega, rfl, by omega, ⟨rfl, rfl, rfl, rfl, trivial⟩⟩
 have hge9 : ¬ i < l.length := by omega
 refine T.exit ?_
 refine T.s (T.rg (TO.qa rfl (TO.nl (T.ret (Res.drop ?_)))))
 refine Res.one (vI (-1)) Tryd.results80 rfl ?_
 exact ⟨[], Sub.z, rfl, rfl⟩
theorem containsY (w : World) [Tab Tryd.prog w] (b : Option Addr) (c : Nat) (l : List Nat) (h : Sl w b (nats l)) (hb : l.length < 1000000) (v : Nat) (hm : v ∈ l) :
  PureT Tryd.prog 61 [.slice b l.length c, vI ((v : Nat) : Int)] w fun r N => r = .bool true ∧ N = [] := by
 refine CallT.enter func61 rfl ntmps61 rfl ?_
 refine T.s (T.rg (TO.qa rfl (TO.nl (T.s (T.rg (TO.qm rfl (TO.qm rfl ?_)))))))
 have hk7 := fun (w1 : World) (hI : Inv w [] w1) => (haveI := Inv.tab (P := Tryd.prog) hI; indexN w1 b c l (hI.sl h) hb v hm)
 refine TO.l rfl (l_call ent80 (CallT.op hk7) rfl ?_)
 clear hk7
 rintro vr O' ⟨N, rfl, ⟨ix9, hix, hixe, hix0, rfl⟩, rfl⟩
 refine TO.q (q_geq rfl rfl) (TO.qa rfl (TO.nl (T.ret (Res.drop ?_))))
 refine Res.one (.bool (decide (((ix9 : Nat) : Int) ≥ 0))) Tryd.results61 rfl ?_
 exact ⟨[], Sub.z, congrArg Value.bool (by simp), rfl⟩
theorem containsN0 (w : World) [Tab Tryd.prog w] (b : Option Addr) (c : Nat) (l : List Nat) (h : Sl w b (nats l)) (hb : l.length < 1000000) (v : Nat) (hm : v ∉ l) :
  PureT Tryd.prog 61 [.slice b l.length c, vI ((v : Nat) : Int)] w fun r N => r = .bool false ∧ N = [] := by
 refine CallT.enter func61 rfl ntmps61 rfl ?_
 refine T.s (T.rg (TO.qa rfl (TO.nl (T.s (T.rg (TO.qm rfl (TO.qm rfl ?_)))))))
 have hk7 := fun (w1 : World) (hI : Inv w [] w1) => (haveI := Inv.tab (P := Tryd.prog) hI; indexNo w1 b c l (hI.sl h) hb v hm)
 refine TO.l rfl (l_call ent80 (CallT.op hk7) rfl ?_)
 clear hk7
 rintro vr O' ⟨N, rfl, rfl, rfl⟩
 refine TO.q (q_geq rfl rfl) (TO.qa rfl (TO.nl (T.ret (Res.drop ?_))))
 refine Res.one (.bool (decide ((-1) ≥ 0))) Tryd.results61 rfl ?_
 exact ⟨[], Sub.z, congrArg Value.bool (by simp), rfl⟩
theorem containsN (w : World) [Tab Tryd.prog w] [Tab Tryd.prog w] (b : Option Addr) (c : Nat) (l : List Nat) (h : Sl w b (nats l)) (hb : l.length < 1000000) (v : Nat) :
  PureT Tryd.prog 61 [.slice b l.length c, vI ((v : Nat) : Int)] w fun r N => r = .bool (decide (v ∈ l)) ∧ N = [] := by
 by_cases hm : v ∈ l
 ·rw [decide_eq_true hm]; exact containsY w b c l h hb v hm
 ·rw [decide_eq_false hm]; exact containsN0 w b c l h hb v hm
theorem anyF (base : World) [Tab Tryd.prog base] (u : Nat) : CallT Tryd.prog base 84 [vI ((u : Nat) : Int)] [] (fun v O' => v = .bool (decide ((fun _ : Nat => true) u = true)) ∧ O' = []) := by
 refine CallT.enter func84 rfl ntmps84 rfl ?_
 refine T.s (T.rg (TO.qa rfl (TO.nl (T.s (T.rg (TO.qa rfl (TO.nl (T.ret ?_))))))))
 refine Res.one (.bool true) Tryd.results84 rfl ?_
 exact ⟨rfl, rfl⟩
theorem eqF4 (base : World) [Tab Tryd.prog base] (sb s u : Nat) : CallT Tryd.prog base 88 [vI ((u : Nat) : Int), (.pointer (aD sb))] [oI sb 3 [vI ((s : Nat) : Int)]] (fun v O' => v = .bool (decide ((fun u : Nat => decide (u = s)) u = true)) ∧ O' = [oI sb 3 [vI ((s : Nat) : Int)]]) := by
 refine CallT.enter func88 rfl ntmps88 rfl ?_
 refine T.s (T.rg (TO.qa rfl (TO.nl (T.s (T.rg (TO.qm rfl (TO.q (q_lb 0 underlying3 rfl rfl rfl rfl) (TO.q (q_eql rfl rfl) (TO.qa rfl (TO.nl (T.ret ?_)))))))))))
 refine Res.one (.bool (decide (((u : Nat) : Int) = ((s : Nat) : Int)))) Tryd.results88 rfl ?_
 exact ⟨congrArg Value.bool (decide_eq_decide.2 (by simp only [decide_eq_true_eq]; omega)), rfl⟩
theorem eqF5 (base : World) [Tab Tryd.prog base] (sb s u : Nat) : CallT Tryd.prog base 89 [vI ((u : Nat) : Int), (.pointer (aD sb))] [oI sb 3 [vI ((s : Nat) : Int)]] (fun v O' => v = .bool (decide ((fun u : Nat => decide (u = s)) u = true)) ∧ O' = [oI sb 3 [vI ((s : Nat) : Int)]]) := by
 refine CallT.enter func89 rfl ntmps89 rfl ?_
 refine T.s (T.rg (TO.qa rfl (TO.nl (T.s (T.rg (TO.qm rfl (TO.q (q_lb 0 underlying3 rfl rfl rfl rfl) (TO.q (q_eql rfl rfl) (TO.qa rfl (TO.nl (T.ret ?_)))))))))))
 refine Res.one (.bool (decide (((u : Nat) : Int) = ((s : Nat) : Int)))) Tryd.results89 rfl ?_
 exact ⟨congrArg Value.bool (decide_eq_decide.2 (by simp only [decide_eq_true_eq]; omega)), rfl⟩
theorem inF (base : World) [Tab Tryd.prog base] (pb : Nat) (b : Option Addr) (c : Nat) (l : List Nat) (hb : l.length < 1000000) (OO : List Lx.Item) (hS : ∀ w, Inv base ([oI pb 23 [(.slice b l.length c)]] ++ OO) w → Sl w b (nats l)) (u : Nat) :
  CallT Tryd.prog base 86 [vI ((u : Nat) : Int), (.pointer (aD pb))] ([oI pb 23 [(.slice b l.length c)]] ++ OO) (fun v O' => v = .bool (decide ((fun u : Nat => decide (u ∈ l)) u = true)) ∧ O' = [oI pb 23 [(.slice b l.length c)]] ++ OO) := by
 refine CallT.enter func86 rfl ntmps86 rfl ?_
 refine T.s (T.rg (TO.qa rfl (TO.nl (T.s (T.rg (TO.q (q_lb 0 underlying23 rfl rfl rfl rfl) (TO.qm rfl ?_)))))))
 have hk6 := fun (w1 : World) (hI : Inv base ([oI pb 23 [(.slice b l.length c)]] ++ OO) w1) => (haveI := Inv.tab (P := Tryd.prog) hI; containsN w1 b c l (hS w1 hI) hb u)
 refine TO.l rfl (l_call ent61 (CallT.op hk6) rfl ?_)
 clear hk6
 rintro vr O' ⟨N, rfl, rfl, rfl⟩
 refine TO.qa rfl (TO.nl (T.ret ?_))
 refine Res.one (.bool (decide (u ∈ l))) Tryd.results86 rfl ?_
 exact ⟨congrArg Value.bool (decide_eq_decide.2 (by simp only [decide_eq_true_eq])), rfl⟩
theorem insF (base : World) [Tab Tryd.prog base] (mb m ab : Nat) (ks : List Nat) (fal : Value) (al : Nat → Bool) (OO : List Lx.Item) (u : Nat) (hal : CallV Tryd.prog base fal [vI ((u : Nat) : Int)] OO (fun v O' => v = .bool (decide (al u = true)) ∧ O' = OO)) :
  CallT Tryd.prog base 85 [vI ((u : Nat) : Int), (.pointer (aD mb)), (.pointer (aD ab))] ([oI mb 79 [(.map (some m))], mapI KIn Value.bool m (rchM ks), oI ab 69 [fal]] ++ OO) (fun v O' => v = .bool (decide ((decide (u ∈ ks) && al u) = true)) ∧ O' = [oI mb 79 [(.map (some m))], mapI KIn Value.bool m (rchM ks), oI ab 69 [fal]] ++ OO) := by
 refine CallT.enter func85 rfl ntmps85 rfl ?_
 refine T.s (T.rg (TO.qa rfl (TO.nl (T.s (T.rg (TO.q (q_lb 0 underlying79 rfl rfl rfl rfl) (TO.qm rfl (TO.q (QT.cast (q_lookup (K := KIn) (V := Value.bool) (a := ((u : Nat) : Int)) underlying79 inf4 (KeyOk.int underlying3) rfl rfl (mG 1 rfl)) (v' := .bool (decide (u ∈ ks))) (by rw [← rchM_at ks u]; cases lookL ((u : Nat) : Int) (rchM ks) with | none => rfl | some b => cases b <;> rfl)) ?_))))))))
 by_cases h8 : u ∈ ks
 ·refine TO.q (QT.toB (q_move rfl) (decide_eq_true h8)) ?_
  refine TO.gq rfl rfl (q_lb 2 underlying69 rfl rfl rfl rfl) (TO.gq rfl rfl (q_move rfl) ?_)
  have hk11 := CallV.keepR [oI mb 79 [(.map (some m))], mapI KIn Value.bool m (rchM ks), oI ab 69 [fal]] hal
  refine TO.gd rfl rfl rfl (l_callG hk11 rfl rfl ?_)
  clear hk11
  rintro vr O' ⟨rfl, rfl⟩
  refine TO.q (q_pick1 rfl rfl) (TO.qa rfl (TO.nl (T.ret ?_)))
  refine Res.one (.bool (decide (al u = true))) Tryd.results85 rfl ?_
  exact ⟨congrArg Value.bool (decide_eq_decide.2 (by simp [h8])), rfl⟩
 refine TO.q (QT.toB (q_move rfl) (decide_eq_false h8)) (TO.pd rfl rfl (TO.pd rfl rfl (TO.pd rfl rfl (TO.q (q_pick0 rfl rfl) (TO.qa rfl (TO.nl (T.ret ?_)))))))
 refine Res.one (.bool false) Tryd.results85 rfl ?_
 exact ⟨congrArg Value.bool (show false = _ by simp [h8]), rfl⟩
end Go.Proofs.YtnikhiohindggaaDoor


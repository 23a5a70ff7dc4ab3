/- Contracts of functions of the program (Quo, Dist, Diff, RefR, Ref7, RefM, Uni, DR, Myh, Rnd, Word, Wrd2, Bol, Dct, Can, Bol2, Bol3, Bol4, Bol5, Bol6, Bol7): what each call answers and that it leaves memory as it was. Conditions: those each theorem names. -/
import Derived.Test.YtnpehjpookcfkaaGreatDoorCoreK
import Derived.Test.YtnpehjpookcfkaaGreatDoorRn
import Derived.Test.YtnpehjpookcfkaaGreatDoorAll
set_option linter.unusedSectionVars false
set_option linter.unusedSimpArgs false
set_option linter.unusedVariables false
set_option linter.unnecessarySimpa false
set_option maxHeartbeats 8000000
set_option maxRecDepth 20000
namespace Go.Proofs.YtnpehjpookcfkaaGreatDoor
open Go.Lx Go.RowKit _root_.Go.Proofs.Tryz
theorem minBad (w : World) [Tab Tryz.prog w] (d : DFA) (nb fb : Option Addr) (nc fc : Nat) (vs : List Value) (h : DfaAt w d nb vs fb) (hb : d.next.length < 9223372036854775807) (hbr : ∀ r ∈ d.next, r.length < 9223372036854775807) (hbf : d.final.length < 9223372036854775807) (he : checkD d ≠ 0) :
  PureT Tryz.prog 39 [.agg (dfaCells d nb nc fb fc).toArray] w fun v N => v = .tuple #[.agg #[vI 0, vI 0, nS, nS], vI (checkD d : Int)] ∧ N = [] := by
 refine CallT.enter func39 rfl ntmps39 rfl ?_
 refine T.s (T.rg (TO.l rfl (l_box (v := (.agg #[(vI d.vars), (vI d.start), (.slice nb d.next.length nc), (.slice fb d.final.length fc)])) (cs := [(vI d.vars), (vI d.start), (.slice nb d.next.length nc), (.slice fb d.final.length fc)]) rfl rfl (fun b1 => ?_))))
 refine TO.l rfl (l_alloc inf25 rfl (fun b2 => ?_))
 refine TO.qa rfl (TO.nl (T.s (T.rg (TO.q (q_la 1 uT25 rfl inf25 rfl rfl rfl) ?_))))
 have hk14 := fun (w1 : World) (hI : Inv w [oI b2 25 [(vI 0), (vI 0), nS, nS], oI b1 25 [(vI d.vars), (vI d.start), (.slice nb d.next.length nc), (.slice fb d.final.length fc)]] w1) => (haveI := tbz hI; classesBad w1 d nb fb nc fc vs (hI.dfa h) hb hbr hbf he)
 refine TO.l rfl (l_call ent66 (CallT.op hk14) rfl ?_)
 clear hk14
 rintro v O' ⟨N, rfl, rfl, rfl⟩
 refine TO.qm rfl (TO.q (q_extract (vs := _) rfl rfl) (TO.q (q_extract (vs := _) rfl rfl) (TO.l rfl (l_alloc inf48 rfl (fun b3 => ?_)))))
 refine TO.l rfl (l_sb (v := nS) (vs := [nS]) 0 inf48 rfl rfl rfl rfl rfl rfl (by simp [putL]) ?_)
 refine TO.qa rfl (TO.nl (T.s (T.s (T.rg (TO.qm rfl (TO.q (QT.toB (q_neq rfl rfl) (decide_eq_true (by omega))) (TO.nl ?_)))))))
 refine T.cond1 rfl ?_
 refine T.s (T.rg (TO.q (q_build plan25 inf25 rfl) (TO.qm rfl (TO.l rfl (l_sb (v := (.agg #[(vI 0), (vI 0), nS, nS])) (vs := [(vI 0), (vI 0), nS, nS]) 1 inf25 rfl rfl rfl rfl rfl rfl (by simp [putL]) ?_)))))
 refine TO.qa rfl (TO.nl (T.ret (Res.drop ?_)))
 refine Res.cell1b (vI (checkD d : Int)) (i := 1) Tryz.results39 uT25 rfl inf25 rfl rfl rfl rfl ?_
 exact ⟨[], Sub.of (List.nil_sublist _), rfl, rfl⟩
theorem minOk (w : World) [Tab Tryz.prog w] (d : DFA) (nb fb : Option Addr) (nc fc : Nat) (vs : List Value) (h : DfaAt w d nb vs fb) (hv : Valid d) (hn : d.next.length < 10000) (hqv : Valid (quo d (itF d d.next.length))) (hqn : (quo d (itF d d.next.length)).next.length < 10000) :
  PureT Tryz.prog 39 [.agg (dfaCells d nb nc fb fc).toArray] w fun v N => ∃ nb' nc' fb' fc' qs, v = .tuple #[.agg (dfaCells (renum (quo d (itF d d.next.length))) nb' nc' fb' fc').toArray, vI 0] ∧ N = [rowI nb' nc' 48 1 (vals qs), rowI fb' fc' 4 1 (bools (renum (quo d (itF d d.next.length))).final)] ++ itms 3 qs ∧ nums qs = (renum (quo d (itF d d.next.length))).next := by
 refine CallT.enter func39 rfl ntmps39 rfl ?_
 obtain ⟨cs, hcs⟩ : ∃ cs, itF d d.next.length = cs := ⟨_, rfl⟩
 rw [hcs] at hqv hqn ⊢
 have hcl : cs.length = d.next.length := hcs ▸ itF_length d _
 have hc9 : ∀ x ∈ cs, x < 10000 := hcs ▸ itF_lt hn _
 have hs0 := hv.s0
 have hs1 := hv.s1
 have hn0 := hv.n0
 have hn4 := hv.n4
 have hsn : d.start.toNat < cs.length := by omega
 have hb : d.next.length < 9223372036854775807 := by omega
 refine T.s (T.rg (TO.l rfl (l_box (v := (.agg #[(vI d.vars), (vI d.start), (.slice nb d.next.length nc), (.slice fb d.final.length fc)])) (cs := [(vI d.vars), (vI d.start), (.slice nb d.next.length nc), (.slice fb d.final.length fc)]) rfl rfl (fun z1 => ?_))))
 refine TO.l rfl (l_alloc inf25 rfl (fun z2 => ?_))
 refine TO.qa rfl (TO.nl (T.s (T.rg (TO.q (q_la 1 uT25 rfl inf25 rfl rfl rfl) ?_))))
 have hk14 := fun (w1 : World) (hI : Inv w [oI z2 25 [(vI 0), (vI 0), nS, nS], oI z1 25 [(vI d.vars), (vI d.start), (.slice nb d.next.length nc), (.slice fb d.final.length fc)]] w1) => (haveI := tbz hI; classesOk w1 d nb fb nc fc vs (hI.dfa h) hv hn)
 refine TO.l rfl (l_call ent66 (CallT.op hk14) rfl ?_)
 clear hk14
 rintro v O' ⟨N, rfl, cb, cc, rfl, rfl⟩
 rw [hcs]
 refine TO.qm rfl (TO.q (q_extract (vs := _) rfl rfl) (TO.q (q_extract (vs := _) rfl rfl) (TO.l rfl (l_alloc inf48 rfl (fun z3 => ?_)))))
 refine TO.l rfl (l_sb (v := (.slice cb d.next.length cc)) (vs := [(.slice cb d.next.length cc)]) 0 inf48 rfl rfl rfl rfl rfl rfl (by simp [putL]) ?_)
 refine TO.qa rfl (TO.nl (T.s (T.s (T.rg (TO.qm rfl (TO.q (q_neq rfl rfl) (TO.nl (T.cond0 rfl (T.skip (T.s ?_))))))))))
 refine T.draws [oI z3 48 [(.slice cb d.next.length cc)], rowI cb cc 3 1 (nats cs), oI z1 25 [(vI d.vars), (vI d.start), (.slice nb d.next.length nc), (.slice fb d.final.length fc)]] [(0, 0), (1, 0), (2, 0), (3, 0), (4, 0), (5, 0), (6, 0), (7, 0), (8, 1), (9, 2)] mixed (by kernel_rfl) (Sub.pick [0, 0, 1] rfl) (fun _ _ _ h => h) ?_
 refine DO.q rfl (q_fa uT25 rfl inf3 rfl rfl) (DO.q rfl (q_lb 2 uT3 rfl rfl rfl rfl) (DO.q rfl (q_lb 0 uT48 rfl rfl rfl rfl) (DO.q rfl (q_fa uT25 rfl inf3 rfl rfl) (DO.q rfl (q_lb 2 uT3 rfl rfl rfl rfl) (DO.q rfl (q_ixz (i := d.start) uT48 inf3 rfl rfl (rowO (mG 1 rfl)) hs0 (hcl ▸ hsn) (by rw [List.length_map]; exact hsn)) (DO.q rfl (q_ld uT3 rfl rfl (rowO (mG 1 rfl)) (show (nats cs)[d.start.toNat]? = some (vI ((cs.getD d.start.toNat 0 : Nat) : Int)) by rw [nats_get hsn]; simp [hsn])) (DO.q rfl (q_build (cs := [(vI d.vars), vI ((cs.getD d.start.toNat 0 : Nat) : Int), nS, nS]) plan25 inf25 (by kernel_rfl)) ?_)))))))
 refine DO.loud rfl rfl (l_alloc inf25 rfl (fun z4 => ⟨Sub.pick [1, 1, 2] rfl, ?_⟩))
 refine DO.last rfl rfl (l_sb (v := (.agg #[(vI d.vars), vI ((cs.getD d.start.toNat 0 : Nat) : Int), nS, nS])) (vs := [(vI d.vars), vI ((cs.getD d.start.toNat 0 : Nat) : Int), nS, nS]) 0 inf25 rfl rfl rfl rfl rfl rfl (by simp [putL]) ?_)
 refine DO.done ?_
 refine T.s (T.s (T.rg (TO.q (q_la 4 uT25 rfl inf25 rfl rfl rfl) ?_)))
 have hk30 := fun (w1 : World) (hI : Inv w [oI z4 25 [(vI d.vars), vI ((cs.getD d.start.toNat 0 : Nat) : Int), nS, nS], oI z3 48 [(.slice cb d.next.length cc)], rowI cb cc 3 1 (nats cs), oI z2 25 [(vI 0), (vI 0), nS, nS], oI z1 25 [(vI d.vars), (vI d.start), (.slice nb d.next.length nc), (.slice fb d.final.length fc)]] w1) => (haveI := tbz hI; rowsF w1 d nb fb nc fc)
 refine TO.l rfl (l_call ent67 (CallT.op hk30) rfl ?_)
 clear hk30
 rintro v O' ⟨N, rfl, bR, rfl, rfl⟩
 refine TO.nl (T.nilRow 4 1 ?_)
 refine T.nilRow 48 1 ?_
 refine T.sub (O' := [oI bR 25 [(vI d.vars), (vI d.start), (.slice nb d.next.length nc), (.slice fb d.final.length fc)], oI z4 25 [(vI d.vars), vI ((cs.getD d.start.toNat 0 : Nat) : Int), nS, nS], rowI none 0 48 1 (vals []), rowI none 0 4 1 (bools []), oI z3 48 [(.slice cb d.next.length cc)], rowI cb cc 3 1 (nats cs), oI z2 25 [(vI 0), (vI 0), nS, nS], oI z1 25 [(vI d.vars), (vI d.start), (.slice nb d.next.length nc), (.slice fb d.final.length fc)]]) (Sub.pick [2, 2, 0, 0, 0, 0, 0, 0] rfl) ?_
 refine T.block ?_
 refine T.rangeFunc (first := []) (caps := [(.pointer (aD bR))]) rfl ent88 (fun yl yq yhq => ?_)
 refine CallT.mono (CallT.sub (O' := oI bR 25 [(vI d.vars), (vI d.start), (.slice nb d.next.length nc), (.slice fb d.final.length fc)] :: (objI yl (lp yq none) :: [oI z4 25 [(vI d.vars), vI ((cs.getD d.start.toNat 0 : Nat) : Int), nS, nS], rowI none 0 48 1 (vals []), rowI none 0 4 1 (bools []), oI z3 48 [(.slice cb d.next.length cc)], rowI cb cc 3 1 (nats cs), oI z2 25 [(vI 0), (vI 0), nS, nS], oI z1 25 [(vI d.vars), (vI d.start), (.slice nb d.next.length nc), (.slice fb d.final.length fc)]])) (Sub.pick [1, 0, 0, 0, 0, 0, 0, 0, 0] rfl) (rows1 w d nb fb nc fc vs h hb bR (.func (.yield yl) #[] #[]) (fun k O => ∃ (ob fb9 : Option Addr) (oc fc9 : Nat) (qs : List Rec) (fs : List Bool), O = objI yl (lp yq none) :: ([oI z4 25 [(vI d.vars), (vI ((cs.getD d.start.toNat 0 : Nat) : Int)), (.slice ob qs.length oc), (.slice fb9 fs.length fc9)], rowI ob oc 48 1 (vals qs), rowI fb9 fc9 4 1 (bools fs), oI z3 48 [(.slice cb d.next.length cc)], rowI cb cc 3 1 (nats cs), oI z2 25 [(vI 0), (vI 0), nS, nS], oI z1 25 [(vI d.vars), (vI d.start), (.slice nb d.next.length nc), (.slice fb d.final.length fc)]] ++ (itms 3 qs)) ∧ k ≤ d.next.length ∧ nums qs = (quoN d cs k).1 ∧ fs = (quoN d cs k).2) (fun _ => False) ?_ _ ?_)) ?_
 ·intro k hlt vb vc O g1 s1 hJ
  obtain ⟨ob, fb9, oc, fc9, qs, fs, rfl, hk, hqs, hfs⟩ := hJ
  refine CallV.yield yhq rfl rfl ?_
  have hkc : k < cs.length := by omega
  have hql : qs.length = (quoN d cs k).1.length := by rw [← hqs]; simp
  have hfl : fs.length = (quoN d cs k).1.length := by rw [hfs]; exact (quoN_len d cs k).1.symm
  have hqk := (quoN_len d cs k).2
  have hkf : k < d.final.length := by have := hv.fin; omega
  have hrl : d.next[k].length ≤ 64 := by
   have := hv.len _ (List.getElem_mem hlt); have := hv.width; omega
  have hto : ∀ j (hj : j < d.next[k].length), 0 ≤ d.next[k][j] ∧ d.next[k][j].toNat < cs.length := fun j hj => by have := hv.ok _ (List.getElem_mem hlt) _ (List.getElem_mem hj); omega
  refine T.s (T.rg (TO.qa rfl (TO.nl (T.rg (TO.qa rfl (TO.nl (T.block (T.s (T.s ?_)))))))))
  refine T.draws [oI z4 25 [(vI d.vars), (vI ((cs.getD d.start.toNat 0 : Nat) : Int)), (.slice ob qs.length oc), (.slice fb9 fs.length fc9)], oI z3 48 [(.slice cb d.next.length cc)], rowI cb cc 3 1 (nats cs)] [(0, 0), (1, 0), (2, 0), (3, 0), (4, 0), (5, 0), (6, 0), (7, 0)] mixed (by kernel_rfl) (Sub.pick0 [0, 2, 2] [oI z4 25 [(vI d.vars), (vI ((cs.getD d.start.toNat 0 : Nat) : Int)), (.slice ob qs.length oc), (.slice fb9 fs.length fc9)], rowI ob oc 48 1 (vals qs), rowI fb9 fc9 4 1 (bools fs), oI z3 48 [(.slice cb d.next.length cc)], rowI cb cc 3 1 (nats cs), oI z2 25 [(vI 0), (vI 0), nS, nS], oI z1 25 [(vI d.vars), (vI d.start), (.slice nb d.next.length nc), (.slice fb d.final.length fc)]] (itms 3 qs) rfl rfl) (fun _ _ _ h => h) ?_
  refine DO.q rfl (q_lb 1 uT48 rfl rfl rfl rfl) (DO.q rfl (q_move rfl) (DO.q rfl (q_ix (i := k) uT48 inf3 rfl rfl (rowO (mG 2 rfl))) (DO.q rfl (q_ld uT3 rfl rfl (rowO (mG 2 rfl)) nats_get) (DO.q rfl (q_fa uT25 rfl inf22 rfl rfl) (DO.q rfl (q_lb 0 uT22 rfl rfl rfl rfl) (DO.q rfl (q_len uT22 rfl) (DO.q rfl (q_lss rfl rfl) ?_)))))))
  refine DO.done ?_
  refine T.condP rfl (fun hc => ?_) (fun hc => ?_)
  ·have hlt40 : cs[k] < qs.length := by omega
   have hqn1 : quoN d cs (k + 1) = quoN d cs k := by rw [quoN, if_pos (by simp [hkc]; omega)]
   refine T.exit ?_
   refine .inl ⟨rfl, ob, fb9, oc, fc9, qs, fs, rfl, by omega, ?_, ?_⟩
   ·rw [hqn1]; exact hqs
   ·rw [hqn1]; exact hfs
  have hge40 : ¬ cs[k] < qs.length := by omega
  have hqn2 : quoN d cs (k + 1) = ((quoN d cs k).1 ++ [(rowK cs d.next[k]).map fun c : Nat => (c : Int)], (quoN d cs k).2 ++ [d.final[k]]) := by rw [quoN, if_neg (by simp [hkc]; omega)]; simp [hlt, hkf]
  refine T.skip (T.s (T.rg (TO.qa rfl (TO.nl (T.s (T.s (T.rg (TO.qm rfl (TO.q (q_len uT48 rfl) (TO.qm rfl (TO.nl (T.block (T.nilRow 3 1 ?_)))))))))))))
  refine T.loop (fun (j : Nat) ρ O => ∃ (kb : Option Addr) (kc : Nat), O = ([rowI kb kc 3 1 (nats ((rowK cs d.next[k]).take j)), oI z4 25 [(vI d.vars), (vI ((cs.getD d.start.toNat 0 : Nat) : Int)), (.slice ob qs.length oc), (.slice fb9 fs.length fc9)], rowI ob oc 48 1 (vals qs), rowI fb9 fc9 4 1 (bools fs), oI z3 48 [(.slice cb d.next.length cc)], rowI cb cc 3 1 (nats cs), oI z2 25 [(vI 0), (vI 0), nS, nS], oI z1 25 [(vI d.vars), (vI d.start), (.slice nb d.next.length nc), (.slice fb d.final.length fc)]] ++ (itms 3 qs)) ∧ j ≤ d.next[k].length ∧ Heads [(0, (.agg #[(vI d.vars), (vI d.start), (.slice nb d.next.length nc), (.slice fb d.final.length fc)])), (1, (.pointer (aD z1))), (2, (.pointer (aD z2))), (3, vI 0), (4, (.pointer (aD z3))), (5, vI 0), (6, (.pointer (aD z4))), (7, vI (k : Int)), (8, (.slice vb d.next[k].length vc)), (9, (.slice kb j kc)), (41, (.slice vb d.next[k].length vc)), (42, vI (d.next[k].length : Int)), (43, vI (j : Int))] ρ) (fun j => d.next[k].length - j) 0 ?_ ?_
  ·exact ⟨none, 0, rfl, Nat.zero_le _, (.of rfl)⟩
  rintro j ρ O ⟨kb, kc, rfl, hj, hH⟩
  obtain ⟨ρ0, rfl⟩ := hH.elim
  clear hH
  refine T.s (T.rg (TO.q (q_lss rfl rfl) (TO.nl (T.s (T.condP rfl (fun hc => ?_) (fun hc => ?_))))))
  ·have hlt44 : j < d.next[k].length := by omega
   have htj := (hto j hlt44).2
   refine T.skip (T.s (T.block (T.s (T.rg (TO.q (q_ix (i := j) uT48 inf3 rfl rfl (Sl.o s1)) (TO.q (q_ld uT3 rfl rfl (Sl.o s1) ints_get) (TO.qa rfl (TO.nl (T.rg (TO.qm rfl (TO.q (q_lb 4 uT48 rfl rfl rfl rfl) (TO.qm rfl (TO.q (q_ixz (i := d.next[k][j]) uT48 inf3 rfl rfl (rowO (mG 5 rfl)) (hto j hlt44).1 (hcl ▸ (hto j hlt44).2) (by rw [List.length_map]; exact (hto j hlt44).2)) (TO.q (q_ld uT3 rfl rfl (rowO (mG 5 rfl)) (nats_get (hto j hlt44).2)) (TO.l rfl (l_build1 (v := vI ((cs[d.next[k][j].toNat] : Nat) : Int)) uT48 inf3 rfl rfl rfl (fun z5 => ?_)))))))))))))))))
   refine TO.l rfl (l_append 1 uT48 uT48 inf3 rfl rfl rfl rfl (by rw [List.length_map, List.length_take, rowK_length]; omega) (by decide) (Src.row (j := 0) rfl (by simp)) (by simp [oneB]) (by omega) (by decide) (by decide) (fun z6 zc7 => ?_))
   refine TO.qa rfl ?_
   refine TO.sub (O' := ([rowI z6 zc7 3 1 ((nats ((rowK cs d.next[k]).take j)) ++ [vI ((cs[d.next[k][j].toNat] : Nat) : Int)]), oI z4 25 [(vI d.vars), (vI ((cs.getD d.start.toNat 0 : Nat) : Int)), (.slice ob qs.length oc), (.slice fb9 fs.length fc9)], rowI ob oc 48 1 (vals qs), rowI fb9 fc9 4 1 (bools fs), oI z3 48 [(.slice cb d.next.length cc)], rowI cb cc 3 1 (nats cs), oI z2 25 [(vI 0), (vI 0), nS, nS], oI z1 25 [(vI d.vars), (vI d.start), (.slice nb d.next.length nc), (.slice fb d.final.length fc)]] ++ (itms 3 qs))) (Sub.pickR [1, 1, 1, 1, 1, 1, 1, 1] [rowI (aD z5) 1 3 1 [vI ((cs[d.next[k][j].toNat] : Nat) : Int)], rowI z6 zc7 3 1 ((nats ((rowK cs d.next[k]).take j)) ++ [vI ((cs[d.next[k][j].toNat] : Nat) : Int)]), oI z4 25 [(vI d.vars), (vI ((cs.getD d.start.toNat 0 : Nat) : Int)), (.slice ob qs.length oc), (.slice fb9 fs.length fc9)], rowI ob oc 48 1 (vals qs), rowI fb9 fc9 4 1 (bools fs), oI z3 48 [(.slice cb d.next.length cc)], rowI cb cc 3 1 (nats cs), oI z2 25 [(vI 0), (vI 0), nS, nS], oI z1 25 [(vI d.vars), (vI d.start), (.slice nb d.next.length nc), (.slice fb d.final.length fc)]] (itms 3 qs) rfl rfl) ?_
   refine TO.nl (T.rg (TO.q (q_inc rfl rfl (by omega)) (TO.qm rfl (TO.nl ?_))))
   have hst : (rowK cs d.next[k]).take (j + 1) = (rowK cs d.next[k]).take j ++ [cs[d.next[k][j].toNat]] := by rw [List.take_succ_eq_append_getElem (by rw [rowK_length]; exact hlt44), rowK_get hlt44 (hto j hlt44).2]
   exact ⟨j + 1, by omega, z6, zc7, by rw [hst, show nats ((rowK cs d.next[k]).take j ++ [cs[d.next[k][j].toNat]]) = nats ((rowK cs d.next[k]).take j) ++ [vI ((cs[d.next[k][j].toNat] : Nat) : Int)] from List.map_append], by omega, (.of rfl)⟩
  have hge44 : ¬ j < d.next[k].length := by omega
  refine T.exit ?_
  have hjf : j = d.next[k].length := by omega
  have hR : rowI kb kc 3 1 (nats ((rowK cs d.next[k]).take j)) = Rec.itm 3 ⟨kb, kc, (rowK cs d.next[k]).map fun c : Nat => (c : Int)⟩ := by
   rw [List.take_of_length_le (by rw [rowK_length]; omega)]; simp [Rec.itm, Function.comp_def]
  refine T.cut1 (fun ρ O => ∃ (ob2 : Option Addr) (oc2 : Nat) (fb2 : Option Addr) (fc2 : Nat), O = ([oI z4 25 [(vI d.vars), (vI ((cs.getD d.start.toNat 0 : Nat) : Int)), (.slice ob2 (qs.length + 1) oc2), (.slice fb2 (fs.length + 1) fc2)], rowI ob2 oc2 48 1 ((vals qs) ++ [(.slice kb j kc)]), rowI fb2 fc2 4 1 ((bools fs) ++ [(.bool d.final[k])]), oI z3 48 [(.slice cb d.next.length cc)], rowI cb cc 3 1 (nats cs), oI z2 25 [(vI 0), (vI 0), nS, nS], oI z1 25 [(vI d.vars), (vI d.start), (.slice nb d.next.length nc), (.slice fb d.final.length fc)]] ++ (itms 3 (qs ++ [⟨kb, kc, (rowK cs d.next[k]).map fun c : Nat => (c : Int)⟩]))) ∧ Heads [(0, (.agg #[(vI d.vars), (vI d.start), (.slice nb d.next.length nc), (.slice fb d.final.length fc)])), (1, (.pointer (aD z1))), (2, (.pointer (aD z2))), (3, vI 0), (4, (.pointer (aD z3))), (5, vI 0), (6, (.pointer (aD z4))), (7, vI (k : Int)), (8, (.slice vb d.next[k].length vc)), (9, (.slice kb j kc)), (41, (.slice vb d.next[k].length vc)), (42, vI (d.next[k].length : Int)), (43, vI (j : Int))] ρ) ?_ ?_
  ·refine T.treeT [oI z4 25 [(vI d.vars), (vI ((cs.getD d.start.toNat 0 : Nat) : Int)), (.slice ob qs.length oc), (.slice fb9 fs.length fc9)], oI z1 25 [(vI d.vars), (vI d.start), (.slice nb d.next.length nc), (.slice fb d.final.length fc)]] [15, 17] 18 mixed rfl (Sub.pick0 [1, 6] [rowI kb kc 3 1 (nats ((rowK cs d.next[k]).take j)), oI z4 25 [(vI d.vars), (vI ((cs.getD d.start.toNat 0 : Nat) : Int)), (.slice ob qs.length oc), (.slice fb9 fs.length fc9)], rowI ob oc 48 1 (vals qs), rowI fb9 fc9 4 1 (bools fs), oI z3 48 [(.slice cb d.next.length cc)], rowI cb cc 3 1 (nats cs), oI z2 25 [(vI 0), (vI 0), nS, nS], oI z1 25 [(vI d.vars), (vI d.start), (.slice nb d.next.length nc), (.slice fb d.final.length fc)]] (itms 3 qs) rfl rfl) (fun _ _ _ h => h) ?_
   refine RO.quietTT 0 rfl (by kernel_rfl) (q_fa uT25 rfl inf22 rfl rfl) ?_
   refine RO.quietTT 1 rfl (by kernel_rfl) (q_lb 0 uT22 rfl rfl rfl rfl) ?_
   refine RO.quietTT 2 rfl (by kernel_rfl) (q_move rfl) ?_
   refine RO.quietTT 5 rfl (by kernel_rfl) (q_fa uT25 rfl inf23 rfl rfl) ?_
   refine RO.quietTT 6 rfl (by kernel_rfl) (q_lb 0 uT23 rfl rfl rfl rfl) ?_
   refine RO.quietTT 7 rfl (by kernel_rfl) (q_fa uT25 rfl inf23 rfl rfl) ?_
   refine RO.quietTT 8 rfl (by kernel_rfl) (q_lb 1 uT23 rfl rfl rfl rfl) ?_
   refine RO.quietTT 9 rfl (by kernel_rfl) (q_move rfl) ?_
   refine RO.quietTT 10 rfl (by kernel_rfl) (q_ix (i := k) uT23 inf4 rfl rfl (Sl.o h.final) hkf (by rw [List.length_map]; exact hkf)) ?_
   refine RO.quietTT 11 rfl (by kernel_rfl) (q_ld uT4 rfl rfl (Sl.o h.final) (bools_get hkf)) ?_
   refine RO.forkT [3, 12] (by kernel_rfl) rfl ⟨⟨_, rfl, rfl, l_build1 (v := (.slice kb j kc)) uT22 inf48 rfl rfl rfl (fun zA => ⟨.inr (Sub.pick0 [2, 7] [rowI (aD zA) 1 48 1 [(.slice kb j kc)], rowI kb kc 3 1 (nats ((rowK cs d.next[k]).take j)), oI z4 25 [(vI d.vars), (vI ((cs.getD d.start.toNat 0 : Nat) : Int)), (.slice ob qs.length oc), (.slice fb9 fs.length fc9)], rowI ob oc 48 1 (vals qs), rowI fb9 fc9 4 1 (bools fs), oI z3 48 [(.slice cb d.next.length cc)], rowI cb cc 3 1 (nats cs), oI z2 25 [(vI 0), (vI 0), nS, nS], oI z1 25 [(vI d.vars), (vI d.start), (.slice nb d.next.length nc), (.slice fb d.final.length fc)]] (itms 3 qs) rfl rfl), ?_⟩)⟩, ⟨_, rfl, rfl, l_build1 (v := (.bool d.final[k])) uT23 inf4 rfl rfl rfl (fun zB => ⟨.inr (Sub.pick0 [2, 7] [rowI (aD zB) 1 4 1 [(.bool d.final[k])], rowI kb kc 3 1 (nats ((rowK cs d.next[k]).take j)), oI z4 25 [(vI d.vars), (vI ((cs.getD d.start.toNat 0 : Nat) : Int)), (.slice ob qs.length oc), (.slice fb9 fs.length fc9)], rowI ob oc 48 1 (vals qs), rowI fb9 fc9 4 1 (bools fs), oI z3 48 [(.slice cb d.next.length cc)], rowI cb cc 3 1 (nats cs), oI z2 25 [(vI 0), (vI 0), nS, nS], oI z1 25 [(vI d.vars), (vI d.start), (.slice nb d.next.length nc), (.slice fb d.final.length fc)]] (itms 3 qs) rfl rfl), ?_⟩)⟩, trivial⟩ (by kernel_rfl)
   ·refine RO.forkT [4, 12] (by kernel_rfl) rfl ⟨⟨_, rfl, rfl, l_append 3 uT22 uT22 inf48 rfl rfl rfl rfl (by rw [List.length_map]; omega) (by decide) (Src.row (j := 0) rfl (by simp)) (by simp [oneB]) (by omega) (by decide) (by decide) (fun ob2 oc2 => ⟨.inr (Sub.pick0 [2, 7] [rowI (aD zA) 1 48 1 [(.slice kb j kc)], rowI kb kc 3 1 (nats ((rowK cs d.next[k]).take j)), oI z4 25 [(vI d.vars), (vI ((cs.getD d.start.toNat 0 : Nat) : Int)), (.slice ob qs.length oc), (.slice fb9 fs.length fc9)], rowI ob2 oc2 48 1 ((vals qs) ++ [(.slice kb j kc)]), rowI fb9 fc9 4 1 (bools fs), oI z3 48 [(.slice cb d.next.length cc)], rowI cb cc 3 1 (nats cs), oI z2 25 [(vI 0), (vI 0), nS, nS], oI z1 25 [(vI d.vars), (vI d.start), (.slice nb d.next.length nc), (.slice fb d.final.length fc)]] (itms 3 qs) rfl rfl), ?_⟩)⟩, ⟨_, rfl, rfl, l_build1 (v := (.bool d.final[k])) uT23 inf4 rfl rfl rfl (fun zB => ⟨.inr (Sub.pick0 [3, 8] [rowI (aD zB) 1 4 1 [(.bool d.final[k])], rowI (aD zA) 1 48 1 [(.slice kb j kc)], rowI kb kc 3 1 (nats ((rowK cs d.next[k]).take j)), oI z4 25 [(vI d.vars), (vI ((cs.getD d.start.toNat 0 : Nat) : Int)), (.slice ob qs.length oc), (.slice fb9 fs.length fc9)], rowI ob oc 48 1 (vals qs), rowI fb9 fc9 4 1 (bools fs), oI z3 48 [(.slice cb d.next.length cc)], rowI cb cc 3 1 (nats cs), oI z2 25 [(vI 0), (vI 0), nS, nS], oI z1 25 [(vI d.vars), (vI d.start), (.slice nb d.next.length nc), (.slice fb d.final.length fc)]] (itms 3 qs) rfl rfl), ?_⟩)⟩, trivial⟩ (by kernel_rfl)
    ·refine RO.quietE 14 rfl (by kernel_rfl) (q_fa uT25 rfl inf22 rfl rfl) ?_
     refine RO.forkT [12] (by kernel_rfl) rfl ⟨⟨_, rfl, rfl, l_build1 (v := (.bool d.final[k])) uT23 inf4 rfl rfl rfl (fun zB => ⟨.inr (Sub.pick0 [3, 8] [rowI (aD zB) 1 4 1 [(.bool d.final[k])], rowI (aD zA) 1 48 1 [(.slice kb j kc)], rowI kb kc 3 1 (nats ((rowK cs d.next[k]).take j)), oI z4 25 [(vI d.vars), (vI ((cs.getD d.start.toNat 0 : Nat) : Int)), (.slice ob qs.length oc), (.slice fb9 fs.length fc9)], rowI ob2 oc2 48 1 ((vals qs) ++ [(.slice kb j kc)]), rowI fb9 fc9 4 1 (bools fs), oI z3 48 [(.slice cb d.next.length cc)], rowI cb cc 3 1 (nats cs), oI z2 25 [(vI 0), (vI 0), nS, nS], oI z1 25 [(vI d.vars), (vI d.start), (.slice nb d.next.length nc), (.slice fb d.final.length fc)]] (itms 3 qs) rfl rfl), ?_⟩)⟩, trivial⟩ (by kernel_rfl)
     refine RO.forkT [13] (by kernel_rfl) rfl ⟨⟨_, rfl, rfl, l_append 5 uT23 uT23 inf4 rfl rfl rfl rfl (by rw [List.length_map]; omega) (by decide) (Src.row (j := 0) rfl (by simp)) (by simp [oneB]) (by omega) (by decide) (by decide) (fun fb2 fc2 => ⟨.inr (Sub.pick0 [3, 8] [rowI (aD zB) 1 4 1 [(.bool d.final[k])], rowI (aD zA) 1 48 1 [(.slice kb j kc)], rowI kb kc 3 1 (nats ((rowK cs d.next[k]).take j)), oI z4 25 [(vI d.vars), (vI ((cs.getD d.start.toNat 0 : Nat) : Int)), (.slice ob qs.length oc), (.slice fb9 fs.length fc9)], rowI ob2 oc2 48 1 ((vals qs) ++ [(.slice kb j kc)]), rowI fb2 fc2 4 1 ((bools fs) ++ [(.bool d.final[k])]), oI z3 48 [(.slice cb d.next.length cc)], rowI cb cc 3 1 (nats cs), oI z2 25 [(vI 0), (vI 0), nS, nS], oI z1 25 [(vI d.vars), (vI d.start), (.slice nb d.next.length nc), (.slice fb d.final.length fc)]] (itms 3 qs) rfl rfl), ?_⟩)⟩, trivial⟩ (by kernel_rfl)
     refine RO.forkT [15] (by kernel_rfl) rfl ⟨⟨_, rfl, rfl, l_sb (v := (.slice ob2 (qs.length + 1) oc2)) (vs := [(.slice ob2 (qs.length + 1) oc2)]) 3 inf22 rfl rfl rfl rfl rfl rfl (by simp [putL]) ⟨.inl (by decide), ?_⟩⟩, trivial⟩ (by kernel_rfl)
     refine RO.quietE 16 rfl (by kernel_rfl) (q_fa uT25 rfl inf23 rfl rfl) ?_
     refine RO.forkT [17] (by kernel_rfl) rfl ⟨⟨_, rfl, rfl, l_sb (v := (.slice fb2 (fs.length + 1) fc2)) (vs := [(.slice fb2 (fs.length + 1) fc2)]) 3 inf23 rfl rfl rfl rfl rfl rfl (by simp [putL]) ⟨.inl (by decide), ?_⟩⟩, trivial⟩ (by kernel_rfl)
     exact RO.fin (by kernel_rfl) ⟨ob2, oc2, fb2, fc2, rfl, (.of rfl)⟩ (by show Sub _ ([rowI (aD zB) 1 4 1 [(.bool d.final[k])], rowI (aD zA) 1 48 1 [(.slice kb j kc)], rowI kb kc 3 1 (nats ((rowK cs d.next[k]).take j)), oI z4 25 [(vI d.vars), (vI ((cs.getD d.start.toNat 0 : Nat) : Int)), (.slice ob2 (qs.length + 1) oc2), (.slice fb2 (fs.length + 1) fc2)], rowI ob2 oc2 48 1 ((vals qs) ++ [(.slice kb j kc)]), rowI fb2 fc2 4 1 ((bools fs) ++ [(.bool d.final[k])]), oI z3 48 [(.slice cb d.next.length cc)], rowI cb cc 3 1 (nats cs), oI z2 25 [(vI 0), (vI 0), nS, nS], oI z1 25 [(vI d.vars), (vI d.start), (.slice nb d.next.length nc), (.slice fb d.final.length fc)]] ++ itms 3 qs); rw [hR]; exact Sub.ca [rowI (aD zB) 1 4 1 [(.bool d.final[k])], rowI (aD zA) 1 48 1 [(.slice kb j kc)]])
    refine RO.forkT [4] (by kernel_rfl) rfl ⟨⟨_, rfl, rfl, l_append 4 uT22 uT22 inf48 rfl rfl rfl rfl (by rw [List.length_map]; omega) (by decide) (Src.row (j := 1) rfl (by simp)) (by simp [oneB]) (by omega) (by decide) (by decide) (fun ob2 oc2 => ⟨.inr (Sub.pick0 [3, 8] [rowI (aD zB) 1 4 1 [(.bool d.final[k])], rowI (aD zA) 1 48 1 [(.slice kb j kc)], rowI kb kc 3 1 (nats ((rowK cs d.next[k]).take j)), oI z4 25 [(vI d.vars), (vI ((cs.getD d.start.toNat 0 : Nat) : Int)), (.slice ob qs.length oc), (.slice fb9 fs.length fc9)], rowI ob2 oc2 48 1 ((vals qs) ++ [(.slice kb j kc)]), rowI fb9 fc9 4 1 (bools fs), oI z3 48 [(.slice cb d.next.length cc)], rowI cb cc 3 1 (nats cs), oI z2 25 [(vI 0), (vI 0), nS, nS], oI z1 25 [(vI d.vars), (vI d.start), (.slice nb d.next.length nc), (.slice fb d.final.length fc)]] (itms 3 qs) rfl rfl), ?_⟩)⟩, trivial⟩ (by kernel_rfl)
    refine RO.quietE 14 rfl (by kernel_rfl) (q_fa uT25 rfl inf22 rfl rfl) ?_
    refine RO.forkT [13] (by kernel_rfl) rfl ⟨⟨_, rfl, rfl, l_append 5 uT23 uT23 inf4 rfl rfl rfl rfl (by rw [List.length_map]; omega) (by decide) (Src.row (j := 0) rfl (by simp)) (by simp [oneB]) (by omega) (by decide) (by decide) (fun fb2 fc2 => ⟨.inr (Sub.pick0 [3, 8] [rowI (aD zB) 1 4 1 [(.bool d.final[k])], rowI (aD zA) 1 48 1 [(.slice kb j kc)], rowI kb kc 3 1 (nats ((rowK cs d.next[k]).take j)), oI z4 25 [(vI d.vars), (vI ((cs.getD d.start.toNat 0 : Nat) : Int)), (.slice ob qs.length oc), (.slice fb9 fs.length fc9)], rowI ob2 oc2 48 1 ((vals qs) ++ [(.slice kb j kc)]), rowI fb2 fc2 4 1 ((bools fs) ++ [(.bool d.final[k])]), oI z3 48 [(.slice cb d.next.length cc)], rowI cb cc 3 1 (nats cs), oI z2 25 [(vI 0), (vI 0), nS, nS], oI z1 25 [(vI d.vars), (vI d.start), (.slice nb d.next.length nc), (.slice fb d.final.length fc)]] (itms 3 qs) rfl rfl), ?_⟩)⟩, trivial⟩ (by kernel_rfl)
    refine RO.forkT [15] (by kernel_rfl) rfl ⟨⟨_, rfl, rfl, l_sb (v := (.slice ob2 (qs.length + 1) oc2)) (vs := [(.slice ob2 (qs.length + 1) oc2)]) 3 inf22 rfl rfl rfl rfl rfl rfl (by simp [putL]) ⟨.inl (by decide), ?_⟩⟩, trivial⟩ (by kernel_rfl)
    refine RO.quietE 16 rfl (by kernel_rfl) (q_fa uT25 rfl inf23 rfl rfl) ?_
    refine RO.forkT [17] (by kernel_rfl) rfl ⟨⟨_, rfl, rfl, l_sb (v := (.slice fb2 (fs.length + 1) fc2)) (vs := [(.slice fb2 (fs.length + 1) fc2)]) 3 inf23 rfl rfl rfl rfl rfl rfl (by simp [putL]) ⟨.inl (by decide), ?_⟩⟩, trivial⟩ (by kernel_rfl)
    exact RO.fin (by kernel_rfl) ⟨ob2, oc2, fb2, fc2, rfl, (.of rfl)⟩ (by show Sub _ ([rowI (aD zB) 1 4 1 [(.bool d.final[k])], rowI (aD zA) 1 48 1 [(.slice kb j kc)], rowI kb kc 3 1 (nats ((rowK cs d.next[k]).take j)), oI z4 25 [(vI d.vars), (vI ((cs.getD d.start.toNat 0 : Nat) : Int)), (.slice ob2 (qs.length + 1) oc2), (.slice fb2 (fs.length + 1) fc2)], rowI ob2 oc2 48 1 ((vals qs) ++ [(.slice kb j kc)]), rowI fb2 fc2 4 1 ((bools fs) ++ [(.bool d.final[k])]), oI z3 48 [(.slice cb d.next.length cc)], rowI cb cc 3 1 (nats cs), oI z2 25 [(vI 0), (vI 0), nS, nS], oI z1 25 [(vI d.vars), (vI d.start), (.slice nb d.next.length nc), (.slice fb d.final.length fc)]] ++ itms 3 qs); rw [hR]; exact Sub.ca [rowI (aD zB) 1 4 1 [(.bool d.final[k])], rowI (aD zA) 1 48 1 [(.slice kb j kc)]])
   refine RO.forkT [3] (by kernel_rfl) rfl ⟨⟨_, rfl, rfl, l_build1 (v := (.slice kb j kc)) uT22 inf48 rfl rfl rfl (fun zA => ⟨.inr (Sub.pick0 [3, 8] [rowI (aD zA) 1 48 1 [(.slice kb j kc)], rowI (aD zB) 1 4 1 [(.bool d.final[k])], rowI kb kc 3 1 (nats ((rowK cs d.next[k]).take j)), oI z4 25 [(vI d.vars), (vI ((cs.getD d.start.toNat 0 : Nat) : Int)), (.slice ob qs.length oc), (.slice fb9 fs.length fc9)], rowI ob oc 48 1 (vals qs), rowI fb9 fc9 4 1 (bools fs), oI z3 48 [(.slice cb d.next.length cc)], rowI cb cc 3 1 (nats cs), oI z2 25 [(vI 0), (vI 0), nS, nS], oI z1 25 [(vI d.vars), (vI d.start), (.slice nb d.next.length nc), (.slice fb d.final.length fc)]] (itms 3 qs) rfl rfl), ?_⟩)⟩, trivial⟩ (by kernel_rfl)
   refine RO.forkT [4] (by kernel_rfl) rfl ⟨⟨_, rfl, rfl, l_append 4 uT22 uT22 inf48 rfl rfl rfl rfl (by rw [List.length_map]; omega) (by decide) (Src.row (j := 0) rfl (by simp)) (by simp [oneB]) (by omega) (by decide) (by decide) (fun ob2 oc2 => ⟨.inr (Sub.pick0 [3, 8] [rowI (aD zA) 1 48 1 [(.slice kb j kc)], rowI (aD zB) 1 4 1 [(.bool d.final[k])], rowI kb kc 3 1 (nats ((rowK cs d.next[k]).take j)), oI z4 25 [(vI d.vars), (vI ((cs.getD d.start.toNat 0 : Nat) : Int)), (.slice ob qs.length oc), (.slice fb9 fs.length fc9)], rowI ob2 oc2 48 1 ((vals qs) ++ [(.slice kb j kc)]), rowI fb9 fc9 4 1 (bools fs), oI z3 48 [(.slice cb d.next.length cc)], rowI cb cc 3 1 (nats cs), oI z2 25 [(vI 0), (vI 0), nS, nS], oI z1 25 [(vI d.vars), (vI d.start), (.slice nb d.next.length nc), (.slice fb d.final.length fc)]] (itms 3 qs) rfl rfl), ?_⟩)⟩, trivial⟩ (by kernel_rfl)
   refine RO.quietE 14 rfl (by kernel_rfl) (q_fa uT25 rfl inf22 rfl rfl) ?_
   refine RO.forkT [13] (by kernel_rfl) rfl ⟨⟨_, rfl, rfl, l_append 5 uT23 uT23 inf4 rfl rfl rfl rfl (by rw [List.length_map]; omega) (by decide) (Src.row (j := 1) rfl (by simp)) (by simp [oneB]) (by omega) (by decide) (by decide) (fun fb2 fc2 => ⟨.inr (Sub.pick0 [3, 8] [rowI (aD zA) 1 48 1 [(.slice kb j kc)], rowI (aD zB) 1 4 1 [(.bool d.final[k])], rowI kb kc 3 1 (nats ((rowK cs d.next[k]).take j)), oI z4 25 [(vI d.vars), (vI ((cs.getD d.start.toNat 0 : Nat) : Int)), (.slice ob qs.length oc), (.slice fb9 fs.length fc9)], rowI ob2 oc2 48 1 ((vals qs) ++ [(.slice kb j kc)]), rowI fb2 fc2 4 1 ((bools fs) ++ [(.bool d.final[k])]), oI z3 48 [(.slice cb d.next.length cc)], rowI cb cc 3 1 (nats cs), oI z2 25 [(vI 0), (vI 0), nS, nS], oI z1 25 [(vI d.vars), (vI d.start), (.slice nb d.next.length nc), (.slice fb d.final.length fc)]] (itms 3 qs) rfl rfl), ?_⟩)⟩, trivial⟩ (by kernel_rfl)
   refine RO.forkT [15] (by kernel_rfl) rfl ⟨⟨_, rfl, rfl, l_sb (v := (.slice ob2 (qs.length + 1) oc2)) (vs := [(.slice ob2 (qs.length + 1) oc2)]) 3 inf22 rfl rfl rfl rfl rfl rfl (by simp [putL]) ⟨.inl (by decide), ?_⟩⟩, trivial⟩ (by kernel_rfl)
   refine RO.quietE 16 rfl (by kernel_rfl) (q_fa uT25 rfl inf23 rfl rfl) ?_
   refine RO.forkT [17] (by kernel_rfl) rfl ⟨⟨_, rfl, rfl, l_sb (v := (.slice fb2 (fs.length + 1) fc2)) (vs := [(.slice fb2 (fs.length + 1) fc2)]) 3 inf23 rfl rfl rfl rfl rfl rfl (by simp [putL]) ⟨.inl (by decide), ?_⟩⟩, trivial⟩ (by kernel_rfl)
   exact RO.fin (by kernel_rfl) ⟨ob2, oc2, fb2, fc2, rfl, (.of rfl)⟩ (by show Sub _ ([rowI (aD zA) 1 48 1 [(.slice kb j kc)], rowI (aD zB) 1 4 1 [(.bool d.final[k])], rowI kb kc 3 1 (nats ((rowK cs d.next[k]).take j)), oI z4 25 [(vI d.vars), (vI ((cs.getD d.start.toNat 0 : Nat) : Int)), (.slice ob2 (qs.length + 1) oc2), (.slice fb2 (fs.length + 1) fc2)], rowI ob2 oc2 48 1 ((vals qs) ++ [(.slice kb j kc)]), rowI fb2 fc2 4 1 ((bools fs) ++ [(.bool d.final[k])]), oI z3 48 [(.slice cb d.next.length cc)], rowI cb cc 3 1 (nats cs), oI z2 25 [(vI 0), (vI 0), nS, nS], oI z1 25 [(vI d.vars), (vI d.start), (.slice nb d.next.length nc), (.slice fb d.final.length fc)]] ++ itms 3 qs); rw [hR]; exact Sub.ca [rowI (aD zA) 1 48 1 [(.slice kb j kc)], rowI (aD zB) 1 4 1 [(.bool d.final[k])]])
  rintro ρ O ⟨ob2, oc2, fb2, fc2, rfl, hH⟩
  obtain ⟨ρ0, rfl⟩ := hH.elim
  clear hH
  refine .inl ⟨rfl, ob2, fb2, oc2, fc2, qs ++ [⟨kb, kc, (rowK cs d.next[k]).map fun c : Nat => (c : Int)⟩], fs ++ [d.final[k]], ?_, by omega, ?_, ?_⟩
  ·simp [Rec.val, rowK_length, hjf]
  ·rw [hqn2, ← hqs]; simp
  ·rw [hqn2, hfs]
 ·refine ⟨none, none, 0, 0, [], [], ?_, Nat.zero_le _, rfl, rfl⟩
  rfl
 rintro v O' (⟨ob, fb9, oc, fc9, qs, fs, rfl, hk, hqs, hfs⟩ | hF)
 rotate_left
 ·exact hF.elim
 refine ⟨none, _, rfl, ?_⟩
 refine T.s ?_
 have hql : qs.length = (quo d cs).next.length := by rw [show qs.length = (nums qs).length by simp, hqs]; rfl
 obtain rfl : fs = (quo d cs).final := hfs
 rw [hql]
 refine T.rg (TO.q (q_la 0 uT25 rfl inf25 rfl rfl rfl) ?_)
 have hk72 := fun (w1 : World) (hI : Inv w ([oI z4 25 [(vI d.vars), (vI ((cs.getD d.start.toNat 0 : Nat) : Int)), (.slice ob ((quo d cs).next.length) oc), (.slice fb9 ((quo d cs).final.length) fc9)], rowI ob oc 48 1 (vals qs), rowI fb9 fc9 4 1 (bools (quo d cs).final), oI z3 48 [(.slice cb d.next.length cc)], rowI cb cc 3 1 (nats cs), oI z2 25 [(vI 0), (vI 0), nS, nS], oI z1 25 [(vI d.vars), (vI d.start), (.slice nb d.next.length nc), (.slice fb d.final.length fc)]] ++ (itms 3 qs)) w1) => (haveI := tbz hI; renumOk w1 (quo d cs) ob fb9 oc fc9 (vals qs) ⟨hI.slOf (mG 1 rfl), (show nums qs = (quo d cs).next from hqs) ▸ hI.recs (fun q hq => List.mem_append_right _ (List.mem_map_of_mem (f := Rec.itm 3) hq)), hI.slOf (mG 2 rfl)⟩ hqv hqn)
 refine TO.l rfl (l_call ent68 (CallT.op hk72) rfl ?_)
 clear hk72
 rintro v O' ⟨N, rfl, nb', nc', fb', fc', qs', rfl, rfl, hnx⟩
 refine TO.sub (O' := ([rowI nb' nc' 48 1 (vals qs'), rowI fb' fc' 4 1 (bools (renum (quo d cs)).final), oI z4 25 [(vI d.vars), (vI ((cs.getD d.start.toNat 0 : Nat) : Int)), (.slice ob ((quo d cs).next.length) oc), (.slice fb9 ((quo d cs).final.length) fc9)], rowI ob oc 48 1 (vals qs), rowI fb9 fc9 4 1 (bools (quo d cs).final), oI z3 48 [(.slice cb d.next.length cc)], rowI cb cc 3 1 (nats cs), oI z2 25 [(vI 0), (vI 0), nS, nS], oI z1 25 [(vI d.vars), (vI d.start), (.slice nb d.next.length nc), (.slice fb d.final.length fc)]] ++ ((itms 3 qs') ++ (itms 3 qs)))) (Sub.ca []) ?_
 refine TO.q (q_extract (vs := _) rfl rfl) (TO.q (q_extract (vs := _) rfl rfl) (TO.l rfl (l_sb (v := (.agg #[(vI (renum (quo d cs)).vars), (vI (renum (quo d cs)).start), (.slice nb' ((renum (quo d cs)).next.length) nc'), (.slice fb' ((renum (quo d cs)).final.length) fc')])) (vs := [(vI (renum (quo d cs)).vars), (vI (renum (quo d cs)).start), (.slice nb' ((renum (quo d cs)).next.length) nc'), (.slice fb' ((renum (quo d cs)).final.length) fc')]) 7 inf25 rfl rfl rfl rfl rfl rfl (by simp [putL]) ?_)))
 refine TO.qa rfl (TO.nl (T.ret (Res.drop ?_)))
 refine Res.cell1b (vI 0) (i := 7) Tryz.results39 uT25 rfl inf25 rfl rfl rfl rfl ?_
 exact ⟨[rowI nb' nc' 48 1 (vals qs'), rowI fb' fc' 4 1 (bools (renum (quo d cs)).final)] ++ itms 3 qs', Sub.ca ([oI z4 25 [(vI d.vars), (vI ((cs.getD d.start.toNat 0 : Nat) : Int)), (.slice ob ((quo d cs).next.length) oc), (.slice fb9 ((quo d cs).final.length) fc9)], rowI ob oc 48 1 (vals qs), rowI fb9 fc9 4 1 (bools (quo d cs).final), oI z3 48 [(.slice cb d.next.length cc)], rowI cb cc 3 1 (nats cs), oI z2 25 [(vI (renum (quo d cs)).vars), (vI (renum (quo d cs)).start), (.slice nb' ((renum (quo d cs)).next.length) nc'), (.slice fb' ((renum (quo d cs)).final.length) fc')], oI z1 25 [(vI d.vars), (vI d.start), (.slice nb d.next.length nc), (.slice fb d.final.length fc)]] ++ itms 3 qs), nb', nc', fb', fc', qs', rfl, rfl, hnx⟩
end Go.Proofs.YtnpehjpookcfkaaGreatDoor


namespace Go.Proofs.YtnpehjpookcfkaaGreatDoor
open Go.Lx Go.RowKit _root_.Go.Proofs.Tryz
theorem cloneNil (w : World) [Tab Tryz.prog w] (c : Nat) :
  PureT Tryz.prog 97 [.slice none 0 c] w fun v N => ∃ b' c', v = .slice b' 0 c' ∧ N = [rowI b' c' 5 1 []] := by
 refine CallT.enter func97 rfl ntmps97 rfl ?_
 refine T.s (T.rg (TO.qa rfl (TO.nl (T.s (T.s (T.rg (TO.qm rfl (TO.q (q_eqlNil underlying34 rfl rfl) (TO.nl ?_)))))))))
 refine T.cond1 rfl ?_
 refine T.s (T.nilRow 5 1 ?_)
 refine T.rg (TO.qa rfl (TO.nl (T.ret ?_)))
 refine Res.one nS Tryz.results97 rfl ?_
 exact ⟨_, _, rfl, rfl⟩
theorem cloneSome (w : World) [Tab Tryz.prog w] (a : Addr) (c : Nat) (xs : List Nat) (h1 : Sl w (some a) (byts xs)) (hb : xs.length * 1 ≤ 70368744177664) :
  PureT Tryz.prog 97 [.slice (some a) xs.length c] w fun v N => ∃ b' c', v = .slice b' xs.length c' ∧ N = [rowI b' c' 5 1 (byts xs)] := by
 refine CallT.enter func97 rfl ntmps97 rfl ?_
 refine T.s (T.rg (TO.qa rfl (TO.nl (T.s (T.s (T.rg (TO.qm rfl (TO.q (q_eqlNil underlying34 rfl rfl) (TO.nl (T.cond0 rfl (T.skip (T.s (T.rg (TO.l rfl (l_buildSlice (m := 0) (parts := []) (cs := []) underlying34 inf5 (by decide) (by simp [Instr.fill]) rfl (fun b1 => ?_))))))))))))))))
 refine TO.qm rfl (TO.l rfl (l_append 0 underlying34 underlying34 inf5 rfl rfl rfl rfl (by simp) (by decide) (Src.sl h1 (by simp)) (byts_one xs) (by omega) (by decide) (by decide) (fun b1 c2 => ?_)))
 refine TO.qa rfl (TO.nl (T.ret ?_))
 refine Res.one (.slice b1 (0 + xs.length) c2) Tryz.results97 rfl ?_
 exact ⟨_, _, by rw [Nat.zero_add], rfl⟩
theorem cloneC (w : World) [Tab Tryz.prog w] (b : Option Addr) (c : Nat) (xs : List Nat) (h1 : Sl w b (byts xs)) (hb : xs.length * 1 ≤ 70368744177664) :
  PureT Tryz.prog 97 [.slice b xs.length c] w fun v N => ∃ b' c', v = .slice b' xs.length c' ∧ N = [rowI b' c' 5 1 (byts xs)] := by
 cases b with
 | none =>
  have hx : xs = [] := by
   cases xs with
   | nil => rfl
   | cons x xs => obtain ⟨_, _, e⟩ := h1.addr (i := 0) (by simp); cases e
  subst hx
  exact cloneNil w c
 | some a => exact cloneSome w a c xs h1 hb
end Go.Proofs.YtnpehjpookcfkaaGreatDoor


namespace Go.Proofs.YtnpehjpookcfkaaGreatDoor
open Go.Lx Go.RowKit _root_.Go.Proofs.Tryz
theorem differC (w : World) [Tab Tryz.prog w] (d : DFA) (nb fb : Option Addr) (nc fc : Nat) (vs : List Value) (h : DfaAt w d nb vs fb) (hv : Valid d) (hn : d.next.length < 10000) (k : Int) :
  PureT Tryz.prog 107 [.agg (dfaCells d nb nc fb fc).toArray, vI k] w fun v N => ∃ b c qs, v = .slice b d.next.length c ∧ N = rowI b c 23 1 (bvals qs) :: bitms 4 qs ∧ MatOk d (min k.toNat d.next.length) d.next.length qs := by
 refine CallT.enter func107 rfl ntmps107 rfl ?_
 have hb : d.next.length < 9223372036854775807 := by omega
 have hvl := h.rows.1
 have hfl := hv.fin
 have hww := hv.width
 refine T.s (T.rg (TO.l rfl (l_box (v := (.agg #[(vI d.vars), (vI d.start), (.slice nb d.next.length nc), (.slice fb d.final.length fc)])) (cs := [(vI d.vars), (vI d.start), (.slice nb d.next.length nc), (.slice fb d.final.length fc)]) rfl rfl (fun z1 => ?_))))
 refine TO.qa rfl (TO.nl (T.s (T.rg (TO.q (q_fa underlying25 rfl inf22 rfl rfl) (TO.q (q_lb 0 underlying22 rfl rfl rfl rfl) (TO.q (q_len underlying22 rfl) (TO.qa rfl (TO.nl (T.s (T.rg (TO.qm rfl (TO.l rfl (l_makeSlice (m := d.next.length) underlying132 inf23 rfl rfl (by omega) (by omega) (fun z2 => ?_))))))))))))))
 refine TO.qa rfl (TO.nl (T.s (T.s (T.rg (TO.qa rfl (TO.nl (T.block ?_)))))))
 refine T.loop (fun (s : Nat) ρ O => ∃ (qs : List BRec), O = ([rowI (aD z2) d.next.length 23 1 ((bvals qs) ++ (List.replicate (d.next.length - s) nS)), oI z1 25 [(vI d.vars), (vI d.start), (.slice nb d.next.length nc), (.slice fb d.final.length fc)]] ++ (bitms 4 qs)) ∧ s ≤ d.next.length ∧ MatOk d 0 s qs ∧ Heads [(0, (.agg #[(vI d.vars), (vI d.start), (.slice nb d.next.length nc), (.slice fb d.final.length fc)])), (1, vI k), (2, (.pointer (aD z1))), (4, nS), (5, vI (d.next.length : Int)), (6, (.slice (aD z2) d.next.length d.next.length)), (7, vI (s : Int))] ρ) (fun s => d.next.length - s) 0 ?_ ?_
 ·exact ⟨[], rfl, Nat.zero_le _, rfl, (.of rfl)⟩
 rintro s ρ O ⟨qs, rfl, hs, hM, hH⟩
 obtain ⟨ρ0, rfl⟩ := hH.elim
 clear hH
 refine T.s (T.s (T.rg (TO.qm rfl (TO.qm rfl (TO.q (q_lss rfl rfl) (TO.nl (T.condP rfl (fun hc => ?_) (fun hc => ?_))))))))
 ·have hlt21 : s < d.next.length := by omega
  have hql := hM.len
  have hsf : s < d.final.length := by omega
  refine T.skip (T.s (T.block (T.s (T.rg (TO.qm rfl (TO.qm rfl (TO.qm rfl (TO.l rfl (l_makeSlice (m := d.next.length) underlying23 inf4 rfl rfl (by omega) (by omega) (fun zX => ?_))))))))))
  refine TO.q (q_ix (i := s) underlying132 inf23 rfl rfl (rowO (mG 1 rfl)) hlt21 (by simp; omega)) (TO.l rfl (l_st (j := s) (v := (.slice (aD zX) d.next.length d.next.length)) (vs := [(.slice (aD zX) d.next.length d.next.length)]) (cs := (bvals qs) ++ (List.replicate (d.next.length - s) nS)) 1 inf23 rfl rfl rfl rfl rfl (by simp) rfl (by first | (simp; omega) | (simp_all; omega)) ?_))
  refine TO.sub (O' := ([rowI (aD zX) d.next.length 4 1 (List.replicate d.next.length (.bool false)), rowI (aD z2) d.next.length 23 1 ((bvals qs) ++ ((.slice (aD zX) d.next.length d.next.length) :: (List.replicate (d.next.length - (s + 1)) nS))), oI z1 25 [(vI d.vars), (vI d.start), (.slice nb d.next.length nc), (.slice fb d.final.length fc)]] ++ (bitms 4 qs))) (by rw [show putL ((bvals qs) ++ (List.replicate (d.next.length - s) nS)) s [(.slice (aD zX) d.next.length d.next.length)] = (bvals qs) ++ ((.slice (aD zX) d.next.length d.next.length) :: (List.replicate (d.next.length - (s + 1)) nS)) from by rw [← hole_set (by simpa using hql) hlt21]; simp [putL]]; exact Sub.of (List.Sublist.refl _)) ?_
  refine TO.nl (T.s (T.rg (TO.qa rfl (TO.nl (T.block ?_)))))
  refine T.loop (fun (t : Nat) ρ O => O = ([rowI (aD zX) d.next.length 4 1 (bools (fillB (dif d 0 s) d.next.length t)), rowI (aD z2) d.next.length 23 1 ((bvals qs) ++ ((.slice (aD zX) d.next.length d.next.length) :: (List.replicate (d.next.length - (s + 1)) nS))), oI z1 25 [(vI d.vars), (vI d.start), (.slice nb d.next.length nc), (.slice fb d.final.length fc)]] ++ (bitms 4 qs)) ∧ t ≤ d.next.length ∧ Heads [(0, (.agg #[(vI d.vars), (vI d.start), (.slice nb d.next.length nc), (.slice fb d.final.length fc)])), (1, vI k), (2, (.pointer (aD z1))), (4, nS), (5, vI (d.next.length : Int)), (6, (.slice (aD z2) d.next.length d.next.length)), (7, vI (s : Int)), (8, vI (t : Int))] ρ) (fun t => d.next.length - t) 0 ?_ ?_
  ·exact ⟨by rw [fillB_zero]; simp, Nat.zero_le _, (.of rfl)⟩
  rintro t ρ O ⟨rfl, ht, hH⟩
  obtain ⟨ρ0, rfl⟩ := hH.elim
  clear hH
  refine T.s (T.s (T.rg (TO.qm rfl (TO.qm rfl (TO.q (q_lss rfl rfl) (TO.nl (T.condP rfl (fun hc => ?_) (fun hc => ?_))))))))
  ·have hlt31 : t < d.next.length := by omega
   have htf : t < d.final.length := by omega
   have hd0 : (d.final[s] != d.final[t]) = dif d 0 s t := by simp [dif, finN, hsf, htf]
   refine T.skip (T.s (T.block ?_))
   refine T.draws _ [(0, 0), (1, 0), (2, 0), (3, 0), (4, 0), (5, 0), (6, 0), (7, 0), (8, 0), (9, 0), (10, 0), (11, 0), (12, 0), (13, 0), (14, 0), (15, 0), (16, 0), (17, 2)] mixed (drawF_ok (by kernel_rfl)) (Sub.of (List.Sublist.refl _)) (fun _ _ _ h => h) ?_
   refine DO.q rfl (q_move rfl) (DO.q rfl (q_move rfl) (DO.q rfl (q_ix (i := s) underlying132 inf23 rfl rfl (rowO (mG 1 rfl)) hlt21 (by simp; omega)) (DO.q rfl (q_ld underlying23 rfl rfl (rowO (mG 1 rfl)) (hole_get (by simpa using hql))) (DO.q rfl (q_move rfl) (DO.q rfl (q_fa underlying25 rfl inf23 rfl rfl) (DO.q rfl (q_lb 2 underlying23 rfl rfl rfl rfl) (DO.q rfl (q_move rfl) (DO.q rfl (q_ix (i := s) underlying23 inf4 rfl rfl (Sl.o h.final) hsf (by rw [List.length_map]; exact hsf)) (DO.q rfl (q_ld underlying4 rfl rfl (Sl.o h.final) (bools_get hsf)) (DO.q rfl (q_fa underlying25 rfl inf23 rfl rfl) (DO.q rfl (q_lb 2 underlying23 rfl rfl rfl rfl) (DO.q rfl (q_move rfl) (DO.q rfl (q_ix (i := t) underlying23 inf4 rfl rfl (Sl.o h.final) htf (by rw [List.length_map]; exact htf)) (DO.q rfl (q_ld underlying4 rfl rfl (Sl.o h.final) (bools_get htf)) (DO.q rfl (q_bneq underlying4 rfl rfl) (DO.q rfl (q_ix (i := t) underlying23 inf4 rfl rfl (rowO (mG 0 rfl)) hlt31 (by rw [List.length_map, fillB_length]; exact hlt31)) ?_))))))))))))))))
   refine DO.last rfl rfl (l_st (j := t) (v := .bool (d.final[s] != d.final[t])) (vs := [(.bool (d.final[s] != d.final[t]))]) (cs := bools (fillB (dif d 0 s) d.next.length t)) 0 inf4 rfl rfl rfl rfl rfl (by simp) rfl (by rw [List.length_map, fillB_length]; exact hlt31) ?_)
   refine DO.sub (O' := ([rowI (aD zX) d.next.length 4 1 (bools (fillB (dif d 0 s) d.next.length (t + 1))), rowI (aD z2) d.next.length 23 1 ((bvals qs) ++ ((.slice (aD zX) d.next.length d.next.length) :: (List.replicate (d.next.length - (s + 1)) nS))), oI z1 25 [(vI d.vars), (vI d.start), (.slice nb d.next.length nc), (.slice fb d.final.length fc)]] ++ (bitms 4 qs))) (by rw [show putL (bools (fillB (dif d 0 s) d.next.length t)) t [(.bool (d.final[s] != d.final[t]))] = bools (fillB (dif d 0 s) d.next.length (t + 1)) from by rw [← fillB_set hlt31 hd0]; simp [putL]]; exact Sub.of (List.Sublist.refl _)) ?_
   refine DO.done ?_
   refine T.rg (TO.qm rfl (TO.q (q_inc rfl rfl (by omega)) (TO.qa rfl (TO.nl ?_))))
   exact ⟨t + 1, by omega, rfl, by omega, (.of rfl)⟩
  have hge31 : ¬ t < d.next.length := by omega
  refine T.exit ?_
  refine T.rg (TO.qm rfl (TO.q (q_inc rfl rfl (by omega)) (TO.qa rfl ?_)))
  have hR : rowI (aD zX) d.next.length 4 1 (bools (fillB (dif d 0 s) d.next.length t)) = BRec.itm 4 ⟨(aD zX), d.next.length, difRow d 0 s⟩ := by
   rw [show t = d.next.length by omega, fillB_full]; rfl
  refine TO.sub (O' := [rowI (aD z2) d.next.length 23 1 ((bvals qs) ++ ((.slice (aD zX) d.next.length d.next.length) :: (List.replicate (d.next.length - (s + 1)) nS))), oI z1 25 [(vI d.vars), (vI d.start), (.slice nb d.next.length nc), (.slice fb d.final.length fc)]] ++ (bitms 4 (qs ++ [⟨(aD zX), d.next.length, difRow d 0 s⟩]))) (by rw [hR]; exact Sub.cnt [] (by intro a; simp only [itms, bitms, oI, List.set_cons_zero, List.set_cons_succ, putL, List.cons_append, List.nil_append, List.append_nil, List.append_assoc, List.map_append, List.map_cons, List.map_nil, cnt_append, cnt_cons, cnt_nil, vI, nS, aD] <;> omega)) ?_
  refine TO.nl ?_
  exact ⟨s + 1, by omega, qs ++ [⟨(aD zX), d.next.length, difRow d 0 s⟩], by simp [BRec.val, difRow_length], by omega, hM.snoc, (.of rfl)⟩
 have hge21 : ¬ s < d.next.length := by omega
 refine T.exit ?_
 refine T.s (T.s (T.rg (TO.qa rfl (TO.nl (T.block ?_)))))
 have hse : s = d.next.length := by omega
 have hR0 : (bvals qs) ++ (List.replicate (d.next.length - s) nS) = bvals qs := by rw [show d.next.length - s = 0 by omega]; simp
 rw [hR0]
 rw [hse] at hM
 refine T.loop (fun (r : Nat) ρ O => ∃ (ob : Option Addr) (oc : Nat) (qs : List BRec), O = ([rowI ob oc 23 1 (bvals qs), oI z1 25 [(vI d.vars), (vI d.start), (.slice nb d.next.length nc), (.slice fb d.final.length fc)]] ++ (bitms 4 qs)) ∧ r ≤ k.toNat ∧ r ≤ d.next.length ∧ MatOk d r d.next.length qs ∧ Heads [(0, (.agg #[(vI d.vars), (vI d.start), (.slice nb d.next.length nc), (.slice fb d.final.length fc)])), (1, vI k), (2, (.pointer (aD z1))), (4, nS), (5, vI (d.next.length : Int)), (6, (.slice ob d.next.length oc)), (9, vI (r : Int))] ρ) (fun r => d.next.length - r) 0 ?_ ?_
 ·exact ⟨_, _, qs, rfl, Nat.zero_le _, Nat.zero_le _, hM, (.of rfl)⟩
 rintro r ρ O ⟨ob, oc, qs, rfl, hr1, hr2, hM, hH⟩
 obtain ⟨ρ0, rfl⟩ := hH.elim
 clear hH
 refine T.s (T.s (T.rg (TO.qm rfl (TO.qm rfl ?_))))
 by_cases hk1 : (r : Int) < k
 ·refine TO.q (QT.toB (q_lss rfl rfl) (decide_eq_true hk1)) ?_
  refine TO.qm rfl (TO.gq rfl rfl (q_move rfl) (TO.gq rfl rfl (q_move rfl) (TO.gq rfl rfl (q_lss rfl rfl) (TO.q (q_pick1 rfl rfl) (TO.nl (T.condP rfl (fun hc => ?_) (fun hc => ?_)))))))
  ·have hlt58 : r < d.next.length := by omega
   refine T.skip (T.s (T.block (T.s (T.rg (TO.qm rfl (TO.l rfl (l_makeSlice (m := d.next.length) underlying132 inf23 rfl rfl (by omega) (by omega) (fun z3 => ?_))))))))
   refine TO.qa rfl (TO.nl (T.s (T.s (T.rg (TO.qa rfl (TO.nl (T.block ?_)))))))
   refine T.loop (fun (s : Nat) ρ O => ∃ (ps : List BRec), O = ([rowI (aD z3) d.next.length 23 1 ((bvals ps) ++ (List.replicate (d.next.length - s) nS)), rowI ob oc 23 1 (bvals qs), oI z1 25 [(vI d.vars), (vI d.start), (.slice nb d.next.length nc), (.slice fb d.final.length fc)]] ++ (bitms 4 ps ++ bitms 4 qs)) ∧ s ≤ d.next.length ∧ MatOk d (r + 1) s ps ∧ Heads [(0, (.agg #[(vI d.vars), (vI d.start), (.slice nb d.next.length nc), (.slice fb d.final.length fc)])), (1, vI k), (2, (.pointer (aD z1))), (4, nS), (5, vI (d.next.length : Int)), (6, (.slice ob d.next.length oc)), (9, vI (r : Int)), (10, (.slice (aD z3) d.next.length d.next.length)), (11, vI (s : Int))] ρ) (fun s => d.next.length - s) 0 ?_ ?_
   ·exact ⟨[], rfl, Nat.zero_le _, rfl, (.of rfl)⟩
   rintro s ρ O ⟨ps, rfl, hs, hM2, hH⟩
   obtain ⟨ρ0, rfl⟩ := hH.elim
   clear hH
   refine T.s (T.s (T.rg (TO.qm rfl (TO.qm rfl (TO.q (q_lss rfl rfl) (TO.nl (T.condP rfl (fun hc => ?_) (fun hc => ?_))))))))
   ·have hlt65 : s < d.next.length := by omega
    have hql := hM2.len
    obtain ⟨qa, ma, ga, la, ea⟩ := hM.get hlt65
    obtain ⟨vb1, vc1, g1, s1⟩ := h.rows.get hlt65
    have hl1 : d.next[s].length = 2 ^ d.vars.toNat := hv.len _ (List.getElem_mem hlt65)
    refine T.skip (T.s (T.block (T.s (T.rg (TO.qm rfl (TO.qm rfl (TO.qm rfl (TO.l rfl (l_makeSlice (m := d.next.length) underlying23 inf4 rfl rfl (by omega) (by omega) (fun zX => ?_))))))))))
    refine TO.q (q_ix (i := s) underlying132 inf23 rfl rfl (rowO (mG 1 rfl)) hlt65 (by simp; omega)) (TO.l rfl (l_st (j := s) (v := (.slice (aD zX) d.next.length d.next.length)) (vs := [(.slice (aD zX) d.next.length d.next.length)]) (cs := (bvals ps) ++ (List.replicate (d.next.length - s) nS)) 1 inf23 rfl rfl rfl rfl rfl (by simp) rfl (by first | (simp; omega) | (simp_all; omega)) ?_))
    refine TO.sub (O' := ([rowI (aD zX) d.next.length 4 1 (List.replicate d.next.length (.bool false)), rowI (aD z3) d.next.length 23 1 ((bvals ps) ++ ((.slice (aD zX) d.next.length d.next.length) :: (List.replicate (d.next.length - (s + 1)) nS))), rowI ob oc 23 1 (bvals qs), oI z1 25 [(vI d.vars), (vI d.start), (.slice nb d.next.length nc), (.slice fb d.final.length fc)]] ++ (bitms 4 ps ++ bitms 4 qs))) (by rw [show putL ((bvals ps) ++ (List.replicate (d.next.length - s) nS)) s [(.slice (aD zX) d.next.length d.next.length)] = (bvals ps) ++ ((.slice (aD zX) d.next.length d.next.length) :: (List.replicate (d.next.length - (s + 1)) nS)) from by rw [← hole_set (by simpa using hql) hlt65]; simp [putL]]; exact Sub.of (List.Sublist.refl _)) ?_
    refine TO.nl (T.s (T.rg (TO.qa rfl (TO.nl (T.block ?_)))))
    refine T.loop (fun (t : Nat) ρ O => O = ([rowI (aD zX) d.next.length 4 1 (bools (fillB (dif d (r + 1) s) d.next.length t)), rowI (aD z3) d.next.length 23 1 ((bvals ps) ++ ((.slice (aD zX) d.next.length d.next.length) :: (List.replicate (d.next.length - (s + 1)) nS))), rowI ob oc 23 1 (bvals qs), oI z1 25 [(vI d.vars), (vI d.start), (.slice nb d.next.length nc), (.slice fb d.final.length fc)]] ++ (bitms 4 ps ++ bitms 4 qs)) ∧ t ≤ d.next.length ∧ Heads [(0, (.agg #[(vI d.vars), (vI d.start), (.slice nb d.next.length nc), (.slice fb d.final.length fc)])), (1, vI k), (2, (.pointer (aD z1))), (4, nS), (5, vI (d.next.length : Int)), (6, (.slice ob d.next.length oc)), (9, vI (r : Int)), (10, (.slice (aD z3) d.next.length d.next.length)), (11, vI (s : Int)), (12, vI (t : Int))] ρ) (fun t => d.next.length - t) 0 ?_ ?_
    ·exact ⟨by rw [fillB_zero]; simp, Nat.zero_le _, (.of rfl)⟩
    rintro t ρ O ⟨rfl, ht, hH⟩
    obtain ⟨ρ0, rfl⟩ := hH.elim
    clear hH
    refine T.s (T.s (T.rg (TO.qm rfl (TO.qm rfl (TO.q (q_lss rfl rfl) (TO.nl (T.condP rfl (fun hc => ?_) (fun hc => ?_))))))))
    ·have hlt75 : t < d.next.length := by omega
     obtain ⟨vb2, vc2, g2, s2⟩ := h.rows.get hlt75
     have hl2 : d.next[t].length = 2 ^ d.vars.toNat := hv.len _ (List.getElem_mem hlt75)
     refine T.skip (T.s (T.block (T.s ?_)))
     refine T.draws _ [(0, 0), (1, 0), (2, 0), (3, 0), (4, 0), (5, 0), (6, 0), (7, 0), (8, 0), (9, 0), (10, 0), (11, 0), (12, 0), (13, 2)] mixed (drawF_ok (by kernel_rfl)) (Sub.of (List.Sublist.refl _)) (fun _ _ _ h => h) ?_
     refine DO.q rfl (q_move rfl) (DO.q rfl (q_move rfl) (DO.q rfl (q_ix (i := s) underlying132 inf23 rfl rfl (rowO (mG 1 rfl)) hlt65 (by simp; omega)) (DO.q rfl (q_ld underlying23 rfl rfl (rowO (mG 1 rfl)) (hole_get (by simpa using hql))) (DO.q rfl (q_move rfl) (DO.q rfl (q_move rfl) (DO.q rfl (q_move rfl) (DO.q rfl (q_ix (i := s) underlying132 inf23 rfl rfl (rowO (mG 2 rfl)) hlt65 (by rw [List.length_map, hM.len]; exact hlt65)) (DO.q rfl (q_ld underlying23 rfl rfl (rowO (mG 2 rfl)) ga) (DO.q rfl (q_move rfl) (DO.q rfl (q_ix (i := t) underlying23 inf4 rfl rfl (fun w hI => hI.slOf (T := 4) (k := 1) (List.mem_append_right _ (List.mem_append_right _ (List.mem_map_of_mem (f := BRec.itm 4) ma)))) hlt75 (la ▸ hlt75)) (DO.q rfl (q_ld underlying4 rfl rfl (fun w hI => hI.slOf (T := 4) (k := 1) (List.mem_append_right _ (List.mem_append_right _ (List.mem_map_of_mem (f := BRec.itm 4) ma)))) (ea t hlt75)) (DO.q rfl (q_ix (i := t) underlying23 inf4 rfl rfl (rowO (mG 0 rfl)) hlt75 (by rw [List.length_map, fillB_length]; exact hlt75)) ?_))))))))))))
     refine DO.last rfl rfl (l_st (j := t) (v := .bool (dif d r s t)) (vs := [(.bool (dif d r s t))]) (cs := bools (fillB (dif d (r + 1) s) d.next.length t)) 0 inf4 rfl rfl rfl rfl rfl (by simp) rfl (by rw [List.length_map, fillB_length]; exact hlt75) ?_)
     refine DO.sub (O' := ([rowI (aD zX) d.next.length 4 1 (bools ((fillB (dif d (r + 1) s) d.next.length t).set t (dif d r s t))), rowI (aD z3) d.next.length 23 1 ((bvals ps) ++ ((.slice (aD zX) d.next.length d.next.length) :: (List.replicate (d.next.length - (s + 1)) nS))), rowI ob oc 23 1 (bvals qs), oI z1 25 [(vI d.vars), (vI d.start), (.slice nb d.next.length nc), (.slice fb d.final.length fc)]] ++ (bitms 4 ps ++ bitms 4 qs))) (by rw [show putL (bools (fillB (dif d (r + 1) s) d.next.length t)) t [(.bool (dif d r s t))] = bools ((fillB (dif d (r + 1) s) d.next.length t).set t (dif d r s t)) from by simp [putL]]; exact Sub.of (List.Sublist.refl _)) ?_
     refine DO.done ?_
     refine T.s (T.rg (TO.qa rfl (TO.nl (T.block ?_))))
     refine T.loop (fun (x : Nat) ρ O => O = ([rowI (aD zX) d.next.length 4 1 (bools ((fillB (dif d (r + 1) s) d.next.length t).set t (dif d r s t || (List.range x).any fun x => dif d r (toN d s x) (toN d t x)))), rowI (aD z3) d.next.length 23 1 ((bvals ps) ++ ((.slice (aD zX) d.next.length d.next.length) :: (List.replicate (d.next.length - (s + 1)) nS))), rowI ob oc 23 1 (bvals qs), oI z1 25 [(vI d.vars), (vI d.start), (.slice nb d.next.length nc), (.slice fb d.final.length fc)]] ++ (bitms 4 ps ++ bitms 4 qs)) ∧ x ≤ 2 ^ d.vars.toNat ∧ Heads [(0, (.agg #[(vI d.vars), (vI d.start), (.slice nb d.next.length nc), (.slice fb d.final.length fc)])), (1, vI k), (2, (.pointer (aD z1))), (4, nS), (5, vI (d.next.length : Int)), (6, (.slice ob d.next.length oc)), (9, vI (r : Int)), (10, (.slice (aD z3) d.next.length d.next.length)), (11, vI (s : Int)), (12, vI (t : Int)), (13, vI (x : Int))] ρ) (fun x => 2 ^ d.vars.toNat - x) 0 ?_ ?_
     ·exact ⟨by simp, Nat.zero_le _, (.of rfl)⟩
     rintro x ρ O ⟨rfl, hx, hH⟩
     obtain ⟨ρ0, rfl⟩ := hH.elim
     clear hH
     refine T.s (T.s (T.rg (TO.qm rfl (TO.q (q_fa underlying25 rfl inf22 rfl rfl) (TO.q (q_lb 3 underlying22 rfl rfl rfl rfl) (TO.qm rfl (TO.q (q_ix (i := s) underlying22 inf48 rfl rfl (Sl.o h.outer) hlt65 (hvl ▸ hlt65)) (TO.q (q_ld underlying48 rfl rfl (Sl.o h.outer) g1) (TO.q (q_len underlying48 rfl) (TO.q (q_lss rfl rfl) (TO.nl (T.condP rfl (fun hc => ?_) (fun hc => ?_)))))))))))))
     ·have hlt98 : x < d.next[s].length := by omega
      have hlx : x < 2 ^ d.vars.toNat := by omega
      obtain ⟨hta, _, hxk1, hx1⟩ := hv.toN_lt hlt65 hlx
      obtain ⟨htb, _, hxk2, hx2⟩ := hv.toN_lt hlt75 hlx
      have hx1 : (ints d.next[s])[x]? = some (vI ((toN d s x : Nat) : Int)) := by rw [ints_get hxk1, hx1]
      have hx2 : (ints d.next[t])[x]? = some (vI ((toN d t x : Nat) : Int)) := by rw [ints_get hxk2, hx2]
      obtain ⟨qc, mc, gc, lc, ec⟩ := hM.get hta
      refine T.skip (T.s (T.block (T.s ?_)))
      refine T.draws _ [(0, 0), (1, 0), (2, 0), (3, 0), (4, 0), (5, 0), (6, 0), (7, 0), (8, 0), (9, 0), (10, 0), (11, 0), (12, 0), (13, 0), (14, 0), (15, 0), (16, 0), (17, 0), (18, 0), (19, 0), (20, 0)] mixed (drawF_ok (by kernel_rfl)) (Sub.of (List.Sublist.refl _)) (fun _ _ _ h => h) ?_
      refine DO.q rfl (q_move rfl) (DO.q rfl (q_fa underlying25 rfl inf22 rfl rfl) (DO.q rfl (q_lb 3 underlying22 rfl rfl rfl rfl) (DO.q rfl (q_move rfl) (DO.q rfl (q_ix (i := s) underlying22 inf48 rfl rfl (Sl.o h.outer) hlt65 (hvl ▸ hlt65)) (DO.q rfl (q_ld underlying48 rfl rfl (Sl.o h.outer) g1) (DO.q rfl (q_move rfl) (DO.q rfl (q_ix (i := x) underlying48 inf3 rfl rfl (Sl.o s1) (by rw [hl1]; exact hlx) (by rw [List.length_map, hl1]; exact hlx)) (DO.q rfl (q_ld underlying3 rfl rfl (Sl.o s1) hx1) (DO.q rfl (q_ix (i := (toN d s x)) underlying132 inf23 rfl rfl (rowO (mG 2 rfl)) hta (by rw [List.length_map, hM.len]; exact hta)) (DO.q rfl (q_ld underlying23 rfl rfl (rowO (mG 2 rfl)) gc) (DO.q rfl (q_fa underlying25 rfl inf22 rfl rfl) (DO.q rfl (q_lb 3 underlying22 rfl rfl rfl rfl) (DO.q rfl (q_move rfl) (DO.q rfl (q_ix (i := t) underlying22 inf48 rfl rfl (Sl.o h.outer) hlt75 (hvl ▸ hlt75)) (DO.q rfl (q_ld underlying48 rfl rfl (Sl.o h.outer) g2) (DO.q rfl (q_move rfl) (DO.q rfl (q_ix (i := x) underlying48 inf3 rfl rfl (Sl.o s2) (by rw [hl2]; exact hlx) (by rw [List.length_map, hl2]; exact hlx)) (DO.q rfl (q_ld underlying3 rfl rfl (Sl.o s2) hx2) (DO.q rfl (q_ix (i := (toN d t x)) underlying23 inf4 rfl rfl (fun w hI => hI.slOf (T := 4) (k := 1) (List.mem_append_right _ (List.mem_append_right _ (List.mem_map_of_mem (f := BRec.itm 4) mc)))) htb (lc ▸ htb)) (DO.q rfl (q_ld underlying4 rfl rfl (fun w hI => hI.slOf (T := 4) (k := 1) (List.mem_append_right _ (List.mem_append_right _ (List.mem_map_of_mem (f := BRec.itm 4) mc)))) (ec _ htb)) ?_))))))))))))))))))))
      refine DO.done ?_
      refine T.cond rfl (fun hc => ?_) (fun hc => ?_)
      ·refine T.rg ?_
       refine TO.qm rfl (TO.qm rfl (TO.q (q_ix (i := s) underlying132 inf23 rfl rfl (rowO (mG 1 rfl)) hlt65 (by simp; omega)) (TO.q (q_ld underlying23 rfl rfl (rowO (mG 1 rfl)) (hole_get (by simpa using hql))) (TO.qm rfl (TO.q (q_ix (i := t) underlying23 inf4 rfl rfl (rowO (mG 0 rfl)) hlt75 (by rw [List.length_map, List.length_set, fillB_length]; exact hlt75)) (TO.l rfl (l_st (j := t) (v := .bool true) (vs := [(.bool true)]) (cs := bools ((fillB (dif d (r + 1) s) d.next.length t).set t (dif d r s t || (List.range x).any fun x => dif d r (toN d s x) (toN d t x)))) 0 inf4 rfl rfl rfl rfl rfl (by simp) rfl (by rw [List.length_map, List.length_set, fillB_length]; exact hlt75) ?_)))))))
       refine TO.sub (O' := ([rowI (aD zX) d.next.length 4 1 (bools ((fillB (dif d (r + 1) s) d.next.length t).set t true)), rowI (aD z3) d.next.length 23 1 ((bvals ps) ++ ((.slice (aD zX) d.next.length d.next.length) :: (List.replicate (d.next.length - (s + 1)) nS))), rowI ob oc 23 1 (bvals qs), oI z1 25 [(vI d.vars), (vI d.start), (.slice nb d.next.length nc), (.slice fb d.final.length fc)]] ++ (bitms 4 ps ++ bitms 4 qs))) (by rw [show putL (bools ((fillB (dif d (r + 1) s) d.next.length t).set t (dif d r s t || (List.range x).any fun x => dif d r (toN d s x) (toN d t x)))) t [(.bool true)] = bools ((fillB (dif d (r + 1) s) d.next.length t).set t true) from by simp [putL]]; exact Sub.of (List.Sublist.refl _)) ?_
       refine TO.nl (T.rg (TO.qm rfl (TO.q (q_inc rfl rfl (by omega)) (TO.qa rfl (TO.nl ?_)))))
       have hxx : (dif d r s t || (List.range (x + 1)).any fun x => dif d r (toN d s x) (toN d t x)) = true := by rw [any_snoc, hc]; simp
       exact ⟨x + 1, by omega, by rw [hxx], by omega, (.of rfl)⟩
      refine T.skip (T.rg (TO.qm rfl (TO.q (q_inc rfl rfl (by omega)) (TO.qa rfl (TO.nl ?_)))))
      have hxx : (dif d r s t || (List.range (x + 1)).any fun x => dif d r (toN d s x) (toN d t x)) = (dif d r s t || (List.range x).any fun x => dif d r (toN d s x) (toN d t x)) := by rw [any_snoc, hc]; simp
      exact ⟨x + 1, by omega, by rw [hxx], by omega, (.of rfl)⟩
     have hge98 : ¬ x < d.next[s].length := by omega
     refine T.exit ?_
     refine T.rg (TO.qm rfl (TO.q (q_inc rfl rfl (by omega)) (TO.qa rfl (TO.nl ?_))))
     have hxe : x = letN d := by unfold letN; omega
     have hfu : (dif d r s t || (List.range x).any fun x => dif d r (toN d s x) (toN d t x)) = dif d (r + 1) s t := by rw [hxe]; rfl
     exact ⟨t + 1, by omega, by rw [hfu, fillB_set hlt75 rfl], by omega, (.of rfl)⟩
    have hge75 : ¬ t < d.next.length := by omega
    refine T.exit ?_
    refine T.rg (TO.qm rfl (TO.q (q_inc rfl rfl (by omega)) (TO.qa rfl ?_)))
    have hR : rowI (aD zX) d.next.length 4 1 (bools (fillB (dif d (r + 1) s) d.next.length t)) = BRec.itm 4 ⟨(aD zX), d.next.length, difRow d (r + 1) s⟩ := by
     rw [show t = d.next.length by omega, fillB_full]; rfl
    refine TO.sub (O' := [rowI (aD z3) d.next.length 23 1 ((bvals ps) ++ ((.slice (aD zX) d.next.length d.next.length) :: (List.replicate (d.next.length - (s + 1)) nS))), rowI ob oc 23 1 (bvals qs), oI z1 25 [(vI d.vars), (vI d.start), (.slice nb d.next.length nc), (.slice fb d.final.length fc)]] ++ (bitms 4 (ps ++ [⟨(aD zX), d.next.length, difRow d (r + 1) s⟩]) ++ bitms 4 qs)) (by rw [hR]; exact Sub.cnt [] (by intro a; simp only [itms, bitms, oI, List.set_cons_zero, List.set_cons_succ, putL, List.cons_append, List.nil_append, List.append_nil, List.append_assoc, List.map_append, List.map_cons, List.map_nil, cnt_append, cnt_cons, cnt_nil, vI, nS, aD] <;> omega)) ?_
    refine TO.nl ?_
    exact ⟨s + 1, by omega, ps ++ [⟨(aD zX), d.next.length, difRow d (r + 1) s⟩], by simp [BRec.val, difRow_length], by omega, hM2.snoc, (.of rfl)⟩
   have hge65 : ¬ s < d.next.length := by omega
   refine T.exit ?_
   refine T.rg (TO.qm rfl (TO.qa rfl (TO.nl (T.rg (TO.qm rfl (TO.q (q_inc rfl rfl (by omega)) (TO.qa rfl ?_)))))))
   have hMse : s = d.next.length := by omega
   have hR0 : (bvals ps) ++ (List.replicate (d.next.length - s) nS) = bvals ps := by rw [show d.next.length - s = 0 by omega]; simp
   rw [hR0]
   refine TO.sub (O' := [rowI (aD z3) d.next.length 23 1 (bvals ps), oI z1 25 [(vI d.vars), (vI d.start), (.slice nb d.next.length nc), (.slice fb d.final.length fc)]] ++ (bitms 4 ps)) (Sub.cnt ([rowI ob oc 23 1 (bvals qs)] ++ bitms 4 qs) (by intro a; simp only [itms, bitms, oI, List.set_cons_zero, List.set_cons_succ, putL, List.cons_append, List.nil_append, List.append_nil, List.append_assoc, List.map_append, List.map_cons, List.map_nil, cnt_append, cnt_cons, cnt_nil, vI, nS, aD] <;> omega)) ?_
   refine TO.nl ?_
   exact ⟨r + 1, by omega, (aD z3), d.next.length, ps, rfl, by omega, by omega, hMse ▸ hM2, (.of rfl)⟩
  have hge58 : ¬ r < d.next.length := by omega
  refine T.exit ?_
  refine T.s (T.rg (TO.qm rfl (TO.qa rfl (TO.nl (T.ret (Res.drop ?_))))))
  refine Res.one (.slice ob d.next.length oc) Tryz.results107 rfl ?_
  have hre : r = min k.toNat d.next.length := by omega
  exact ⟨rowI ob oc 23 1 (bvals qs) :: bitms 4 qs, Sub.cnt [oI z1 25 [(vI d.vars), (vI d.start), (.slice nb d.next.length nc), (.slice fb d.final.length fc)]] (by intro a; simp only [itms, bitms, oI, List.set_cons_zero, List.set_cons_succ, putL, List.cons_append, List.nil_append, List.append_nil, List.append_assoc, List.map_append, List.map_cons, List.map_nil, cnt_append, cnt_cons, cnt_nil, vI, nS, aD] <;> omega), ob, oc, qs, rfl, rfl, hre ▸ hM⟩
 refine TO.q (QT.toB (q_lss rfl rfl) (decide_eq_false hk1)) (TO.qm rfl (TO.pd rfl rfl (TO.pd rfl rfl (TO.pd rfl rfl (TO.q (q_pick0 rfl rfl) (TO.nl (T.cond0 rfl ?_)))))))
 refine T.exit ?_
 refine T.s (T.rg (TO.qm rfl (TO.qa rfl (TO.nl (T.ret (Res.drop ?_))))))
 refine Res.one (.slice ob d.next.length oc) Tryz.results107 rfl ?_
 have hre : r = min k.toNat d.next.length := by omega
 exact ⟨rowI ob oc 23 1 (bvals qs) :: bitms 4 qs, Sub.cnt [oI z1 25 [(vI d.vars), (vI d.start), (.slice nb d.next.length nc), (.slice fb d.final.length fc)]] (by intro a; simp only [itms, bitms, oI, List.set_cons_zero, List.set_cons_succ, putL, List.cons_append, List.nil_append, List.append_nil, List.append_assoc, List.map_append, List.map_cons, List.map_nil, cnt_append, cnt_cons, cnt_nil, vI, nS, aD] <;> omega), ob, oc, qs, rfl, rfl, hre ▸ hM⟩
end Go.Proofs.YtnpehjpookcfkaaGreatDoor


namespace Go.Proofs.YtnpehjpookcfkaaGreatDoor
open Go.Lx Go.RowKit _root_.Go.Proofs.Tryz
theorem rRoundsBad (w : World) [Tab Tryz.prog w] (d : DFA) (nb fb : Option Addr) (nc fc : Nat) (vs : List Value) (h : DfaAt w d nb vs fb) (hb : d.next.length < 9223372036854775807) (hbr : ∀ r ∈ d.next, r.length < 9223372036854775807) (hbf : d.final.length < 9223372036854775807) (he : checkD d ≠ 0) (k : Int) :
  PureT Tryz.prog 92 [.agg (dfaCells d nb nc fb fc).toArray, vI k] w fun v N => v = .tuple #[nS, vI (checkD d : Int)] ∧ N = [] := by
 refine CallT.enter func92 rfl ntmps92 rfl ?_
 refine T.s (T.rg (TO.l rfl (l_box (v := (.agg #[(vI d.vars), (vI d.start), (.slice nb d.next.length nc), (.slice fb d.final.length fc)])) (cs := [(vI d.vars), (vI d.start), (.slice nb d.next.length nc), (.slice fb d.final.length fc)]) rfl rfl (fun b1 => ?_))))
 refine TO.qa rfl (TO.qa rfl (TO.nl (T.s (T.rg (TO.q (q_la 0 underlying25 rfl inf25 rfl rfl rfl) ?_)))))
 have hk13 := fun (w1 : World) (hI : Inv w [oI b1 25 [(vI d.vars), (vI d.start), (.slice nb d.next.length nc), (.slice fb d.final.length fc)]] w1) => (haveI := Inv.tab (P := Tryz.prog) hI; refCheck w1 d nb fb nc fc vs (hI.dfa h) hb hbr hbf)
 refine TO.l rfl (l_call ent34 (CallT.op hk13) rfl ?_)
 clear hk13
 rintro v O' ⟨N, rfl, rfl, rfl⟩
 refine TO.qa rfl (TO.nl (T.s (T.s (T.rg (TO.qm rfl (TO.q (QT.toB (q_neq rfl rfl) (decide_eq_true (by omega))) (TO.nl ?_)))))))
 refine T.cond1 rfl ?_
 refine T.s (T.rg (TO.qm rfl (TO.qa rfl (TO.qa rfl (TO.nl (T.ret (Res.drop ?_)))))))
 refine Res.two nS (vI (checkD d : Int)) Tryz.results92 rfl rfl ?_
 exact ⟨[], Sub.of (List.nil_sublist _), rfl, rfl⟩
theorem rRoundsOk (w : World) [Tab Tryz.prog w] (d : DFA) (nb fb : Option Addr) (nc fc : Nat) (vs : List Value) (h : DfaAt w d nb vs fb) (hv : Valid d) (hn : d.next.length < 10000) (k : Int) :
  PureT Tryz.prog 92 [.agg (dfaCells d nb nc fb fc).toArray, vI k] w fun v N => ∃ b c, v = .tuple #[.slice b d.next.length c, vI 0] ∧ N = [rowI b c 3 1 (nats (itF d k.toNat))] := by
 refine CallT.enter func92 rfl ntmps92 rfl ?_
 have he := checkD_zero.2 hv
 have hb : d.next.length < 9223372036854775807 := by have := hv.n4; omega
 have hbr : ∀ r ∈ d.next, r.length < 9223372036854775807 := hv.bound
 have hbf : d.final.length < 9223372036854775807 := by have := hv.fin; omega
 refine T.s (T.rg (TO.l rfl (l_box (v := (.agg #[(vI d.vars), (vI d.start), (.slice nb d.next.length nc), (.slice fb d.final.length fc)])) (cs := [(vI d.vars), (vI d.start), (.slice nb d.next.length nc), (.slice fb d.final.length fc)]) rfl rfl (fun z1 => ?_))))
 refine TO.qa rfl (TO.qa rfl (TO.nl (T.s (T.rg (TO.q (q_la 0 underlying25 rfl inf25 rfl rfl rfl) ?_)))))
 have hk13 := fun (w1 : World) (hI : Inv w [oI z1 25 [(vI d.vars), (vI d.start), (.slice nb d.next.length nc), (.slice fb d.final.length fc)]] w1) => (haveI := Inv.tab (P := Tryz.prog) hI; refCheck w1 d nb fb nc fc vs (hI.dfa h) hb hbr hbf)
 refine TO.l rfl (l_call ent34 (CallT.op hk13) rfl ?_)
 clear hk13
 rintro v O' ⟨N, rfl, rfl, rfl⟩
 rw [he]
 refine TO.qa rfl (TO.nl (T.s (T.s (T.rg (TO.qm rfl (TO.q (q_neq rfl rfl) (TO.nl (T.cond0 rfl (T.skip (T.s (T.rg (TO.q (q_la 0 underlying25 rfl inf25 rfl rfl rfl) (TO.qm rfl ?_)))))))))))))
 have hk19 := fun (w1 : World) (hI : Inv w [oI z1 25 [(vI d.vars), (vI d.start), (.slice nb d.next.length nc), (.slice fb d.final.length fc)]] w1) => (haveI := Inv.tab (P := Tryz.prog) hI; differC w1 d nb fb nc fc vs (hI.dfa h) hv hn k)
 refine TO.l rfl (l_call ent107 (CallT.op hk19) rfl ?_)
 clear hk19
 rintro v O' ⟨N, rfl, mb, mc, qs, rfl, rfl, hM⟩
 refine TO.sub (O' := ([rowI mb mc 23 1 (bvals qs), oI z1 25 [(vI d.vars), (vI d.start), (.slice nb d.next.length nc), (.slice fb d.final.length fc)]] ++ (bitms 4 qs))) (Sub.ca []) ?_
 refine TO.qa rfl (TO.nl (T.s (T.rg (TO.qa rfl (TO.nl (T.s (T.rg (TO.qa rfl (TO.nl (T.s (T.s (T.rg (TO.qa rfl (TO.nl (T.block (T.nilRow 3 1 ?_))))))))))))))))
 refine T.loop (fun (s : Nat) ρ O => ∃ (lb : Option Addr) (lc : Nat), O = ([rowI lb lc 3 1 (nats (labD d (min k.toNat d.next.length) s).1), rowI mb mc 23 1 (bvals qs), oI z1 25 [(vI d.vars), (vI d.start), (.slice nb d.next.length nc), (.slice fb d.final.length fc)]] ++ (bitms 4 qs)) ∧ s ≤ d.next.length ∧ Heads [(0, (.agg #[(vI d.vars), (vI d.start), (.slice nb d.next.length nc), (.slice fb d.final.length fc)])), (1, vI k), (2, (.pointer (aD z1))), (4, nS), (5, vI 0), (6, vI ((0 : Nat) : Int)), (7, (.slice mb d.next.length mc)), (8, (.slice lb s lc)), (9, vI (((labD d (min k.toNat d.next.length) s).2 : Nat) : Int)), (10, vI (s : Int))] ρ) (fun s => d.next.length - s) 0 ?_ ?_
 ·exact ⟨none, 0, rfl, Nat.zero_le _, (.of rfl)⟩
 rintro s ρ O ⟨lb, lc, rfl, hs, hH⟩
 obtain ⟨ρ0, rfl⟩ := hH.elim
 clear hH
 obtain ⟨hll, hlc⟩ := labD_len d (min k.toNat d.next.length) s
 refine T.s (T.s (T.rg (TO.qm rfl (TO.qm rfl (TO.q (q_len underlying132 rfl) (TO.q (q_lss rfl rfl) (TO.nl (T.condP rfl (fun hc => ?_) (fun hc => ?_)))))))))
 ·have hlt23 : s < d.next.length := by omega
  obtain ⟨qa, ma, ga, la, ea⟩ := hM.get hlt23
  refine T.skip (T.s (T.block (T.s (T.rg (TO.qa rfl (TO.nl (T.s (T.block ?_))))))))
  refine T.loop (fun (t : Nat) ρ O => O = ([rowI lb lc 3 1 (nats (labD d (min k.toNat d.next.length) s).1), rowI mb mc 23 1 (bvals qs), oI z1 25 [(vI d.vars), (vI d.start), (.slice nb d.next.length nc), (.slice fb d.final.length fc)]] ++ (bitms 4 qs)) ∧ t ≤ s ∧ (∀ t', t' < t → dif d (min k.toNat d.next.length) s t' = true) ∧ Heads [(0, (.agg #[(vI d.vars), (vI d.start), (.slice nb d.next.length nc), (.slice fb d.final.length fc)])), (1, vI k), (2, (.pointer (aD z1))), (4, nS), (5, vI 0), (6, vI ((0 : Nat) : Int)), (7, (.slice mb d.next.length mc)), (8, (.slice lb s lc)), (9, vI (((labD d (min k.toNat d.next.length) s).2 : Nat) : Int)), (10, vI (s : Int)), (11, vI (t : Int))] ρ) (fun t => s - t) 0 ?_ ?_
  ·exact ⟨rfl, Nat.zero_le _, fun t' h => absurd h (by omega), (.of rfl)⟩
  rintro t ρ O ⟨rfl, ht, hdt, hH⟩
  obtain ⟨ρ0, rfl⟩ := hH.elim
  clear hH
  refine T.s (T.s (T.rg (TO.qm rfl (TO.qm rfl (TO.q (q_ix (i := s) underlying132 inf23 rfl rfl (rowO (mG 1 rfl)) hlt23 (by rw [List.length_map, hM.len]; exact hlt23)) (TO.q (q_ld underlying23 rfl rfl (rowO (mG 1 rfl)) ga) (TO.qm rfl (TO.q (q_ix (i := t) underlying23 inf4 rfl rfl (fun w hI => hI.slOf (T := 4) (k := 1) (List.mem_append_right _ (List.mem_map_of_mem (f := BRec.itm 4) ma))) (by omega) (by omega)) (TO.q (q_ld underlying4 rfl rfl (fun w hI => hI.slOf (T := 4) (k := 1) (List.mem_append_right _ (List.mem_map_of_mem (f := BRec.itm 4) ma))) (ea t (by omega))) (TO.nl (T.cond rfl (fun hc => ?_) (fun hc => ?_))))))))))))
  ·have hts : t < s := by
    by_cases e : t = s
    ·subst e; rw [dif_self] at hc; cases hc
    ·omega
   refine T.skip (T.block (T.rg (TO.qm rfl (TO.q (q_inc rfl rfl (by omega)) (TO.qa rfl (TO.nl ?_))))))
   exact ⟨t + 1, by omega, rfl, by omega, fun t' h9 => by
    by_cases e : t' = t
    ·subst e; exact hc
    ·exact hdt t' (by omega), (.of rfl)⟩
  have hc0 := hc
  refine T.exit ?_
  refine T.s (T.rg (TO.qm rfl (TO.qm rfl (TO.q (q_lss rfl rfl) (TO.nl (T.condP rfl (fun hc => ?_) (fun hc => ?_)))))))
  ·have hlt37 : t < s := by omega
   have hst := labD_old hlt37 hdt hc0
   refine T.rg (TO.qm rfl (TO.qm rfl (TO.qm rfl (TO.q (q_ix (i := t) underlying48 inf3 rfl rfl (rowO (mG 0 rfl)) hlt37 (by rw [List.length_map, hll]; exact hlt37)) (TO.q (q_ld underlying3 rfl rfl (rowO (mG 0 rfl)) (show (nats (labD d (min k.toNat d.next.length) s).1)[t]? = some (vI (((labD d (min k.toNat d.next.length) s).1.getD t 0 : Nat) : Int)) by rw [nats_get (by rw [hll]; exact hlt37)]; simp [hll, hlt37])) (TO.l rfl (l_build1 (v := vI (((labD d (min k.toNat d.next.length) s).1.getD t 0 : Nat) : Int)) underlying48 inf3 rfl rfl rfl (fun z2 => ?_))))))))
   refine TO.l rfl (l_append 1 underlying48 underlying48 inf3 rfl rfl rfl rfl (by rw [List.length_map, hll, Nat.mul_one]) (by decide) (Src.row (j := 0) rfl (by simp)) (by simp [oneB]) (by omega) (by decide) (by decide) (fun z3 zc4 => ?_))
   refine TO.qa rfl (TO.nl (T.rg (TO.qm rfl (TO.q (q_inc rfl rfl (by omega)) (TO.qa rfl ?_)))))
   refine TO.sub (O' := ([rowI z3 zc4 3 1 ((nats (labD d (min k.toNat d.next.length) s).1) ++ [vI (((labD d (min k.toNat d.next.length) s).1.getD t 0 : Nat) : Int)]), rowI mb mc 23 1 (bvals qs), oI z1 25 [(vI d.vars), (vI d.start), (.slice nb d.next.length nc), (.slice fb d.final.length fc)]] ++ (bitms 4 qs))) (Sub.pickR [1, 1, 1] [rowI (aD z2) 1 3 1 [vI (((labD d (min k.toNat d.next.length) s).1.getD t 0 : Nat) : Int)], rowI z3 zc4 3 1 ((nats (labD d (min k.toNat d.next.length) s).1) ++ [vI (((labD d (min k.toNat d.next.length) s).1.getD t 0 : Nat) : Int)]), rowI mb mc 23 1 (bvals qs), oI z1 25 [(vI d.vars), (vI d.start), (.slice nb d.next.length nc), (.slice fb d.final.length fc)]] (bitms 4 qs) rfl rfl) ?_
   refine TO.nl ?_
   refine ⟨s + 1, by omega, z3, zc4, ?_, by omega, ?_⟩
   ·rw [hst, show nats ((labD d (min k.toNat d.next.length) s).1 ++ [(labD d (min k.toNat d.next.length) s).1.getD t 0]) = nats (labD d (min k.toNat d.next.length) s).1 ++ [vI (((labD d (min k.toNat d.next.length) s).1.getD t 0 : Nat) : Int)] from List.map_append]
   ·rw [hst]; exact (.of rfl)
  have hge37 : ¬ t < s := by omega
  have hte : t = s := by omega
  have hst := labD_new (d := d) (k := (min k.toNat d.next.length)) (s := s) (fun t' h9 => hdt t' (by omega))
  refine T.s (T.rg (TO.qm rfl (TO.qm rfl (TO.l rfl (l_build1 (v := vI (((labD d (min k.toNat d.next.length) s).2 : Nat) : Int)) underlying48 inf3 rfl rfl rfl (fun z5 => ?_))))))
  refine TO.l rfl (l_append 1 underlying48 underlying48 inf3 rfl rfl rfl rfl (by rw [List.length_map, hll, Nat.mul_one]) (by decide) (Src.row (j := 0) rfl (by simp)) (by simp [oneB]) (by omega) (by decide) (by decide) (fun z6 zc7 => ?_))
  refine TO.qa rfl (TO.nl (T.rg (TO.qm rfl (TO.q (q_inc rfl rfl (by omega)) (TO.qa rfl (TO.nl (T.rg (TO.qm rfl (TO.q (q_inc rfl rfl (by omega)) (TO.qa rfl ?_))))))))))
  refine TO.sub (O' := ([rowI z6 zc7 3 1 ((nats (labD d (min k.toNat d.next.length) s).1) ++ [vI (((labD d (min k.toNat d.next.length) s).2 : Nat) : Int)]), rowI mb mc 23 1 (bvals qs), oI z1 25 [(vI d.vars), (vI d.start), (.slice nb d.next.length nc), (.slice fb d.final.length fc)]] ++ (bitms 4 qs))) (Sub.pickR [1, 1, 1] [rowI (aD z5) 1 3 1 [vI (((labD d (min k.toNat d.next.length) s).2 : Nat) : Int)], rowI z6 zc7 3 1 ((nats (labD d (min k.toNat d.next.length) s).1) ++ [vI (((labD d (min k.toNat d.next.length) s).2 : Nat) : Int)]), rowI mb mc 23 1 (bvals qs), oI z1 25 [(vI d.vars), (vI d.start), (.slice nb d.next.length nc), (.slice fb d.final.length fc)]] (bitms 4 qs) rfl rfl) ?_
  refine TO.nl ?_
  refine ⟨s + 1, by omega, z6, zc7, ?_, by omega, ?_⟩
  ·rw [hst, show nats ((labD d (min k.toNat d.next.length) s).1 ++ [(labD d (min k.toNat d.next.length) s).2]) = nats (labD d (min k.toNat d.next.length) s).1 ++ [vI (((labD d (min k.toNat d.next.length) s).2 : Nat) : Int)] from List.map_append]
  ·rw [hst]; exact (.of rfl)
 have hge23 : ¬ s < d.next.length := by omega
 refine T.exit ?_
 refine T.s (T.rg (TO.qm rfl (TO.qa rfl (TO.qa rfl (TO.nl (T.ret (Res.drop ?_)))))))
 refine Res.two (.slice lb s lc) (vI 0) Tryz.results92 rfl rfl ?_
 have hse : s = d.next.length := by omega
 have hx : (labD d (min k.toNat d.next.length) s).1 = itF d k.toNat := by rw [hse]; exact labD_itF hv k.toNat
 exact ⟨[rowI lb lc 3 1 (nats (labD d (min k.toNat d.next.length) s).1)], Sub.cnt ([rowI mb mc 23 1 (bvals qs), oI z1 25 [(vI d.vars), (vI d.start), (.slice nb d.next.length nc), (.slice fb d.final.length fc)]] ++ bitms 4 qs) (by intro a; simp only [itms, bitms, oI, List.set_cons_zero, List.set_cons_succ, putL, List.cons_append, List.nil_append, List.append_nil, List.append_assoc, List.map_append, List.map_cons, List.map_nil, cnt_append, cnt_cons, cnt_nil, vI, nS, aD] <;> omega), lb, lc, by rw [hse], by rw [hx]⟩
theorem rClassesBad (w : World) [Tab Tryz.prog w] (d : DFA) (nb fb : Option Addr) (nc fc : Nat) (vs : List Value) (h : DfaAt w d nb vs fb) (hb : d.next.length < 9223372036854775807) (hbr : ∀ r ∈ d.next, r.length < 9223372036854775807) (hbf : d.final.length < 9223372036854775807) (he : checkD d ≠ 0) :
  PureT Tryz.prog 69 [.agg (dfaCells d nb nc fb fc).toArray] w fun v N => v = .tuple #[nS, vI (checkD d : Int)] ∧ N = [] := by
 refine CallT.enter func69 rfl ntmps69 rfl ?_
 refine T.s (T.rg (TO.l rfl (l_box (v := (.agg #[(vI d.vars), (vI d.start), (.slice nb d.next.length nc), (.slice fb d.final.length fc)])) (cs := [(vI d.vars), (vI d.start), (.slice nb d.next.length nc), (.slice fb d.final.length fc)]) rfl rfl (fun b1 => ?_))))
 refine TO.qa rfl (TO.qa rfl (TO.nl (T.s (T.rg (TO.q (q_la 0 underlying25 rfl inf25 rfl rfl rfl) (TO.q (q_fa underlying25 rfl inf22 rfl rfl) (TO.q (q_lb 0 underlying22 rfl rfl rfl rfl) (TO.q (q_len underlying22 rfl) ?_))))))))
 have hk8 := fun (w1 : World) (hI : Inv w [oI b1 25 [(vI d.vars), (vI d.start), (.slice nb d.next.length nc), (.slice fb d.final.length fc)]] w1) => (haveI := Inv.tab (P := Tryz.prog) hI; rRoundsBad w1 d nb fb nc fc vs (hI.dfa h) hb hbr hbf he d.next.length)
 refine TO.l rfl (l_call ent92 (CallT.op hk8) rfl ?_)
 clear hk8
 rintro v O' ⟨N, rfl, rfl, rfl⟩
 refine TO.q (q_extract (vs := _) rfl rfl) (TO.q (q_extract (vs := _) rfl rfl) (TO.qa rfl (TO.qa rfl (TO.nl (T.ret (Res.drop ?_))))))
 refine Res.two nS (vI (checkD d : Int)) Tryz.results69 rfl rfl ?_
 exact ⟨[], Sub.of (List.nil_sublist _), rfl, rfl⟩
theorem rClassesOk (w : World) [Tab Tryz.prog w] (d : DFA) (nb fb : Option Addr) (nc fc : Nat) (vs : List Value) (h : DfaAt w d nb vs fb) (hv : Valid d) (hn : d.next.length < 10000) :
  PureT Tryz.prog 69 [.agg (dfaCells d nb nc fb fc).toArray] w fun v N => ∃ b c, v = .tuple #[.slice b d.next.length c, vI 0] ∧ N = [rowI b c 3 1 (nats (itF d d.next.length))] := by
 refine CallT.enter func69 rfl ntmps69 rfl ?_
 refine T.s (T.rg (TO.l rfl (l_box (v := (.agg #[(vI d.vars), (vI d.start), (.slice nb d.next.length nc), (.slice fb d.final.length fc)])) (cs := [(vI d.vars), (vI d.start), (.slice nb d.next.length nc), (.slice fb d.final.length fc)]) rfl rfl (fun b1 => ?_))))
 refine TO.qa rfl (TO.qa rfl (TO.nl (T.s (T.rg (TO.q (q_la 0 underlying25 rfl inf25 rfl rfl rfl) (TO.q (q_fa underlying25 rfl inf22 rfl rfl) (TO.q (q_lb 0 underlying22 rfl rfl rfl rfl) (TO.q (q_len underlying22 rfl) ?_))))))))
 have hk8 := fun (w1 : World) (hI : Inv w [oI b1 25 [(vI d.vars), (vI d.start), (.slice nb d.next.length nc), (.slice fb d.final.length fc)]] w1) => (haveI := Inv.tab (P := Tryz.prog) hI; rRoundsOk w1 d nb fb nc fc vs (hI.dfa h) hv hn d.next.length)
 refine TO.l rfl (l_call ent92 (CallT.op hk8) rfl ?_)
 clear hk8
 rintro v O' ⟨N, rfl, b, c, rfl, rfl⟩
 refine TO.q (q_extract (vs := _) rfl rfl) (TO.q (q_extract (vs := _) rfl rfl) (TO.qa rfl (TO.qa rfl (TO.nl (T.ret (Res.drop ?_))))))
 refine Res.two (.slice b d.next.length c) (vI 0) Tryz.results69 rfl rfl ?_
 exact ⟨[rowI b c 3 1 (nats (itF d d.next.length))], (Sub.pick [0] rfl), _, _, rfl, rfl⟩
end Go.Proofs.YtnpehjpookcfkaaGreatDoor


namespace Go.Proofs.YtnpehjpookcfkaaGreatDoor
open Go.Lx Go.RowKit _root_.Go.Proofs.Tryz
theorem hasNat (w : World) [Tab Tryz.prog w] (b : Option Addr) (c : Nat) (xs : List Nat) (x m : Nat) (hm : m = xs.length) (h : Sl w b (nats xs)) (hb : xs.length < 9223372036854775807) : PureT Tryz.prog 108 [.slice b m c, vI (x : Int)] w fun v N => v = .bool (decide (x ∈ xs)) ∧ N = [] := by
 subst hm
 have h1 := hasInt w b c (xs.map fun x : Nat => (x : Int)) x (by simpa [Function.comp_def] using h) (by simpa using hb)
 have e : decide ((x : Int) ∈ xs.map fun x : Nat => (x : Int)) = decide (x ∈ xs) := by
  apply decide_eq_decide.2
  simp only [List.mem_map]
  constructor
  ·rintro ⟨y, hy, e⟩
   have : y = x := by omega
   exact this ▸ hy
  ·exact fun h => ⟨x, h, rfl⟩
 rw [e, List.length_map] at h1
 exact h1
theorem numberC (w : World) [Tab Tryz.prog w] (b : Option Addr) (c : Nat) (xs : List Nat) (x m : Nat) (hm : m = xs.length) (h : Sl w b (nats xs)) (hb : xs.length < 9223372036854775807) (hx : x ∈ xs) : PureT Tryz.prog 94 [.slice b m c, vI (x : Int)] w fun v N => v = vI ((ix x xs : Nat) : Int) ∧ N = [] := by
 refine CallT.enter func94 rfl ntmps94 rfl ?_
 have hix := ix_lt hx
 have hixg := ix_get hx
 refine T.s (T.rg (TO.qa rfl (TO.nl (T.s (T.rg (TO.qa rfl (TO.nl (T.s (T.block ?_)))))))))
 refine T.loop (fun (k : Nat) ρ O => O = [] ∧ k ≤ ix x xs ∧ Heads [(0, (.slice b m c)), (1, vI (x : Int)), (4, vI 0), (5, vI (k : Int))] ρ) (fun k => xs.length - k) 0 ?_ ?_
 ·exact ⟨rfl, Nat.zero_le _, ⟨rfl, rfl, rfl, rfl, trivial⟩⟩
 rintro k ρ O ⟨rfl, hk, hH⟩
 obtain ⟨ρ0, rfl⟩ := hH.elim
 clear hH
 have hk9 : k < xs.length := by omega
 refine T.s (T.s (T.rg (TO.qm rfl (TO.qm rfl (TO.q (q_ix (i := k) underlying48 inf3 rfl rfl (Sl.o h) (by omega) (by rw [List.length_map]; omega)) (TO.q (q_ld underlying3 rfl rfl (Sl.o h) (nats_get hk9)) (TO.qm rfl (TO.q (q_neq rfl rfl) (TO.nl (T.condP (p := ¬ xs[k] = x) (congrArg Value.bool (decide_eq_decide.2 (by omega))) (fun hc => ?_) (fun hc => ?_)))))))))))
 ·have hlt11 : xs[k] ≠ x := by omega
  have hne : k ≠ ix x xs := fun e => hc (by subst e; exact Option.some.inj (by rw [← hixg, List.getElem?_eq_getElem hk9]))
  refine T.skip (T.block (T.rg (TO.qm rfl (TO.q (q_inc rfl rfl (by omega)) (TO.qa rfl (TO.nl ?_))))))
  exact ⟨k + 1, by omega, rfl, by omega, ⟨rfl, rfl, rfl, rfl, trivial⟩⟩
 have hge11 : ¬ xs[k] ≠ x := by omega
 refine T.exit ?_
 refine T.s (T.rg (TO.qm rfl (TO.qa rfl (TO.nl (T.ret ?_)))))
 refine Res.one (vI (k : Int)) Tryz.results94 rfl ?_
 have hle := ix_le (List.getElem?_eq_some_iff.2 ⟨hk9, Classical.not_not.1 hc⟩)
 exact ⟨by rw [show k = ix x xs by omega], rfl⟩
theorem orderC (w : World) [Tab Tryz.prog w] (d : DFA) (nb fb : Option Addr) (nc fc : Nat) (vs : List Value) (h : DfaAt w d nb vs fb) (hv : Valid d) (hn : d.next.length < 10000) :
  PureT Tryz.prog 93 [.agg (dfaCells d nb nc fb fc).toArray] w fun v N => ∃ b c, v = .slice b (order d).length c ∧ N = [rowI b c 3 1 (nats (order d))] := by
 refine CallT.enter func93 rfl ntmps93 rfl ?_
 have hs0 := hv.s0
 have hvl := h.rows.1
 have hww := hv.width
 refine T.s (T.rg (TO.l rfl (l_box (v := (.agg #[(vI d.vars), (vI d.start), (.slice nb d.next.length nc), (.slice fb d.final.length fc)])) (cs := [(vI d.vars), (vI d.start), (.slice nb d.next.length nc), (.slice fb d.final.length fc)]) rfl rfl (fun z1 => ?_))))
 refine TO.qa rfl (TO.nl (T.s (T.rg (TO.q (q_fa underlying25 rfl inf3 rfl rfl) (TO.q (q_lb 0 underlying3 rfl rfl rfl rfl) (TO.l rfl (l_build1 (v := (vI d.start)) underlying48 inf3 rfl rfl rfl (fun z2 => ?_))))))))
 refine TO.qa rfl (TO.nl (T.s (T.s (T.rg (TO.qa rfl (TO.nl (T.block ?_)))))))
 refine T.loop (fun (i : Nat) ρ O => ∃ (lb : Option Addr) (lc m : Nat), O = [rowI lb lc 3 1 (nats (bfsN d i)), oI z1 25 [(vI d.vars), (vI d.start), (.slice nb d.next.length nc), (.slice fb d.final.length fc)]] ∧ m = (bfsN d i).length ∧ i ≤ m ∧ Heads [(0, (.agg #[(vI d.vars), (vI d.start), (.slice nb d.next.length nc), (.slice fb d.final.length fc)])), (1, (.pointer (aD z1))), (2, nS), (3, (.slice lb m lc)), (4, vI (i : Int))] ρ) (fun i => d.next.length - i) 0 ?_ ?_
 ·exact ⟨_, _, 1, by rw [show nats (bfsN d 0) = [vI d.start] by simp [bfsN, Int.toNat_of_nonneg hs0]], rfl, Nat.zero_le _, (.of rfl)⟩
 rintro i ρ O ⟨lb, lc, m, rfl, hm, him, hH⟩
 obtain ⟨ρ0, rfl⟩ := hH.elim
 clear hH
 have hlen := bfsN_len hv.toVal i
 refine T.s (T.s (T.rg (TO.qm rfl (TO.qm rfl (TO.q (q_len underlying48 rfl) (TO.q (q_lss rfl rfl) (TO.nl (T.condP rfl (fun hc => ?_) (fun hc => ?_)))))))))
 ·have hlt13 : i < m := by omega
  obtain ⟨o, ho⟩ : ∃ o, (bfsN d i)[i]? = some o := ⟨_, List.getElem?_eq_getElem (show i < (bfsN d i).length by omega)⟩
  have ho9 := (bfsN_ok hv.toVal i).2 o (List.mem_of_getElem? ho)
  obtain ⟨vb, vc, g1, s1⟩ := h.rows.get ho9
  have hl1 : d.next[o].length = 2 ^ d.vars.toNat := hv.len _ (List.getElem_mem ho9)
  refine T.skip (T.s (T.block (T.s ?_)))
  refine T.draws _ [(0, 0), (1, 0), (2, 0), (3, 0), (4, 0), (5, 0), (6, 0), (7, 0), (8, 0)] mixed (by kernel_rfl) (Sub.of (List.Sublist.refl _)) (fun _ _ _ h => h) ?_
  refine DO.q rfl (q_fa underlying25 rfl inf22 rfl rfl) (DO.q rfl (q_lb 1 underlying22 rfl rfl rfl rfl) (DO.q rfl (q_move rfl) (DO.q rfl (q_move rfl) ?_)))
  refine DO.q rfl (q_ix (i := i) underlying48 inf3 rfl rfl (rowO (mG 0 rfl)) (by omega) (by rw [List.length_map]; omega)) (DO.q rfl (q_ld underlying3 rfl rfl (rowO (mG 0 rfl)) (show (nats (bfsN d i))[i]? = some (vI ((o : Nat) : Int)) by rw [List.getElem?_map, ho]; rfl)) (DO.q rfl (q_ix (i := o) underlying22 inf48 rfl rfl (Sl.o h.outer) ho9 (hvl ▸ ho9)) (DO.q rfl (q_ld underlying48 rfl rfl (Sl.o h.outer) g1) ?_)))
  refine DO.q rfl (q_assign rfl) ?_
  refine DO.done ?_
  refine T.s (T.rg (TO.qa rfl (TO.nl (T.block ?_))))
  refine T.loop (fun (x : Nat) ρ O => ∃ (lb : Option Addr) (lc m2 : Nat), O = [rowI lb lc 3 1 (nats (bfsM d i o x)), oI z1 25 [(vI d.vars), (vI d.start), (.slice nb d.next.length nc), (.slice fb d.final.length fc)]] ∧ x ≤ 2 ^ d.vars.toNat ∧ m2 = (bfsM d i o x).length ∧ Heads [(0, (.agg #[(vI d.vars), (vI d.start), (.slice nb d.next.length nc), (.slice fb d.final.length fc)])), (1, (.pointer (aD z1))), (2, nS), (3, (.slice lb m2 lc)), (4, vI (i : Int)), (5, (.slice vb d.next[o].length vc)), (6, vI (x : Int))] ρ) (fun x => 2 ^ d.vars.toNat - x) 0 ?_ ?_
  ·exact ⟨lb, lc, m, rfl, Nat.zero_le _, hm, (.of rfl)⟩
  rintro x ρ O ⟨lb, lc, m2, rfl, hx, hm2, hH⟩
  obtain ⟨ρ0, rfl⟩ := hH.elim
  clear hH
  obtain ⟨hml1, hml2⟩ := bfsM_len (i := i) hv ho9 hx
  refine T.s (T.s (T.rg (TO.qm rfl (TO.qm rfl (TO.q (q_len underlying48 rfl) (TO.q (q_lss rfl rfl) (TO.nl (T.condP rfl (fun hc => ?_) (fun hc => ?_)))))))))
  ·have hlt27 : x < d.next[o].length := by omega
   have hlx : x < 2 ^ d.vars.toNat := by omega
   obtain ⟨hta, _, hxk1, hx1⟩ := hv.toN_lt ho9 hlx
   have hx1 : (ints d.next[o])[x]? = some (vI ((toN d o x : Nat) : Int)) := by rw [ints_get hxk1, hx1]
   refine T.skip (T.s (T.block (T.s (T.rg (TO.qm rfl (TO.qm rfl (TO.qm rfl (TO.q (q_ix (i := x) underlying48 inf3 rfl rfl (Sl.o s1) (by rw [hl1]; exact hlx) (by rw [List.length_map, hl1]; exact hlx)) (TO.q (q_ld underlying3 rfl rfl (Sl.o s1) hx1) ?_)))))))))
   by_cases hin : toN d o x ∈ bfsM d i o x
   ·have hk35 := fun (w1 : World) (hI : Inv w [rowI lb lc 3 1 (nats (bfsM d i o x)), oI z1 25 [(vI d.vars), (vI d.start), (.slice nb d.next.length nc), (.slice fb d.final.length fc)]] w1) => (haveI := Inv.tab (P := Tryz.prog) hI; hasNat w1 lb lc (bfsM d i o x) (toN d o x) m2 hm2 (hI.slOf (mG 0 rfl)) (by omega))
    refine TO.l rfl (l_call ent108 (CallT.op hk35) rfl ?_)
    clear hk35
    rintro v O' ⟨N, rfl, rfl, rfl⟩
    rw [decide_eq_true hin]
    refine TO.q (q_not rfl) (TO.nl (T.cond0 rfl (T.skip (T.rg (TO.qm rfl (TO.q (q_inc rfl rfl (by omega)) (TO.qa rfl ?_)))))))
    refine TO.sub (O' := [rowI lb lc 3 1 (nats (bfsM d i o x)), oI z1 25 [(vI d.vars), (vI d.start), (.slice nb d.next.length nc), (.slice fb d.final.length fc)]]) (Sub.pick [0, 0] rfl) ?_
    refine TO.nl ?_
    have hst : bfsM d i o (x + 1) = bfsM d i o x := by rw [bfsM_step, add, if_pos hin]
    exact ⟨x + 1, by omega, lb, lc, m2, by rw [hst], by omega, by rw [hst]; exact hm2, (.of rfl)⟩
   have hk35 := fun (w1 : World) (hI : Inv w [rowI lb lc 3 1 (nats (bfsM d i o x)), oI z1 25 [(vI d.vars), (vI d.start), (.slice nb d.next.length nc), (.slice fb d.final.length fc)]] w1) => (haveI := Inv.tab (P := Tryz.prog) hI; hasNat w1 lb lc (bfsM d i o x) (toN d o x) m2 hm2 (hI.slOf (mG 0 rfl)) (by omega))
   refine TO.l rfl (l_call ent108 (CallT.op hk35) rfl ?_)
   clear hk35
   rintro v O' ⟨N, rfl, rfl, rfl⟩
   rw [decide_eq_false hin]
   refine TO.q (q_not rfl) (TO.nl ?_)
   refine T.cond1 rfl ?_
   refine T.rg (TO.qm rfl (TO.qm rfl (TO.qm rfl (TO.q (q_ix (i := x) underlying48 inf3 rfl rfl (Sl.o s1) (by rw [hl1]; exact hlx) (by rw [List.length_map, hl1]; exact hlx)) (TO.q (q_ld underlying3 rfl rfl (Sl.o s1) hx1) (TO.l rfl (l_build1 (v := vI ((toN d o x : Nat) : Int)) underlying48 inf3 rfl rfl rfl (fun z3 => ?_))))))))
   refine TO.l rfl (l_append 1 underlying48 underlying48 inf3 rfl rfl rfl rfl (by rw [List.length_map, hm2, Nat.mul_one]) (by decide) (Src.row (j := 0) rfl (by simp)) (by simp [oneB]) (by omega) (by decide) (by decide) (fun z4 zc5 => ?_))
   refine TO.qa rfl (TO.nl (T.rg (TO.qm rfl (TO.q (q_inc rfl rfl (by omega)) (TO.qa rfl ?_)))))
   refine TO.sub (O' := [rowI z4 zc5 3 1 ((nats (bfsM d i o x)) ++ [vI ((toN d o x : Nat) : Int)]), oI z1 25 [(vI d.vars), (vI d.start), (.slice nb d.next.length nc), (.slice fb d.final.length fc)]]) (Sub.pick [1, 1] rfl) ?_
   refine TO.nl ?_
   have hst : bfsM d i o (x + 1) = bfsM d i o x ++ [toN d o x] := by rw [bfsM_step, add, if_neg hin]
   exact ⟨x + 1, by omega, z4, zc5, m2 + 1, by rw [hst, show nats (bfsM d i o x ++ [toN d o x]) = nats (bfsM d i o x) ++ [vI ((toN d o x : Nat) : Int)] from List.map_append], by omega, by rw [hst]; simp [hm2], (.of rfl)⟩
  have hge27 : ¬ x < d.next[o].length := by omega
  refine T.exit ?_
  refine T.rg (TO.qm rfl (TO.q (q_inc rfl rfl (by omega)) (TO.qa rfl (TO.nl ?_))))
  have hxe : x = 2 ^ d.vars.toNat := by omega
  have hbs : bfsM d i o x = bfsN d (i + 1) := by rw [bfsN_succ ho, hxe]; rfl
  exact ⟨i + 1, by omega, lb, lc, m2, by rw [hbs], by rw [← hbs]; exact hm2, by omega, (.of rfl)⟩
 have hge13 : ¬ i < m := by omega
 refine T.exit ?_
 refine T.s (T.rg (TO.qm rfl (TO.qa rfl (TO.nl (T.ret (Res.drop ?_))))))
 refine Res.one (.slice lb m lc) Tryz.results93 rfl ?_
 have hlen := bfsN_len hv.toVal i
 have hle : order d = bfsN d i := order_eq (by omega) (by omega)
 exact ⟨[rowI lb lc 3 1 (nats (bfsN d i))], (Sub.pick [0] rfl), _, _, by rw [hle, ← hm], by rw [hle]⟩
theorem rRenumOk (w : World) [Tab Tryz.prog w] (d : DFA) (nb fb : Option Addr) (nc fc : Nat) (vs : List Value) (h : DfaAt w d nb vs fb) (hv : Valid d) (hn : d.next.length < 10000) :
  PureT Tryz.prog 70 [.agg (dfaCells d nb nc fb fc).toArray] w fun v N => ∃ nb' nc' fb' fc' qs, v = .tuple #[.agg (dfaCells (renum d) nb' nc' fb' fc').toArray, vI 0] ∧ N = [rowI nb' nc' 48 1 (vals qs), rowI fb' fc' 4 1 (bools (renum d).final)] ++ itms 3 qs ∧ nums qs = (renum d).next := by
 refine CallT.enter func70 rfl ntmps70 rfl ?_
 have he := checkD_zero.2 hv
 have hb : d.next.length < 9223372036854775807 := by have := hv.n4; omega
 have hbr : ∀ r ∈ d.next, r.length < 9223372036854775807 := hv.bound
 have hbf : d.final.length < 9223372036854775807 := by have := hv.fin; omega
 have hvl := h.rows.1
 have hww := hv.width
 have hol := order_len hv.toVal
 have hfl := hv.fin
 refine T.s (T.rg (TO.l rfl (l_box (v := (.agg #[(vI d.vars), (vI d.start), (.slice nb d.next.length nc), (.slice fb d.final.length fc)])) (cs := [(vI d.vars), (vI d.start), (.slice nb d.next.length nc), (.slice fb d.final.length fc)]) rfl rfl (fun z1 => ?_))))
 refine TO.l rfl (l_alloc inf25 rfl (fun z2 => ?_))
 refine TO.qa rfl (TO.nl (T.s (T.rg (TO.q (q_la 1 underlying25 rfl inf25 rfl rfl rfl) ?_))))
 have hk11 := fun (w1 : World) (hI : Inv w [oI z2 25 [(vI 0), (vI 0), nS, nS], oI z1 25 [(vI d.vars), (vI d.start), (.slice nb d.next.length nc), (.slice fb d.final.length fc)]] w1) => (haveI := Inv.tab (P := Tryz.prog) hI; refCheck w1 d nb fb nc fc vs (hI.dfa h) hb hbr hbf)
 refine TO.l rfl (l_call ent34 (CallT.op hk11) rfl ?_)
 clear hk11
 rintro v O' ⟨N, rfl, rfl, rfl⟩
 rw [he]
 refine TO.qa rfl (TO.nl (T.s (T.s (T.rg (TO.qm rfl (TO.q (q_neq rfl rfl) (TO.nl (T.cond0 rfl (T.skip (T.s (T.rg (TO.q (q_la 1 underlying25 rfl inf25 rfl rfl rfl) ?_))))))))))))
 have hk17 := fun (w1 : World) (hI : Inv w [oI z2 25 [(vI 0), (vI 0), nS, nS], oI z1 25 [(vI d.vars), (vI d.start), (.slice nb d.next.length nc), (.slice fb d.final.length fc)]] w1) => (haveI := Inv.tab (P := Tryz.prog) hI; orderC w1 d nb fb nc fc vs (hI.dfa h) hv hn)
 refine TO.l rfl (l_call ent93 (CallT.op hk17) rfl ?_)
 clear hk17
 rintro v O' ⟨N, rfl, lb, lc, rfl, rfl⟩
 refine TO.qa rfl (TO.nl (T.s (T.rg (TO.q (q_fa underlying25 rfl inf3 rfl rfl) (TO.q (q_lb 2 underlying3 rfl rfl rfl rfl) (TO.q (q_build (cs := [(vI d.vars), (vI 0), nS, nS]) plan25 inf25 (by kernel_rfl)) (TO.l rfl (l_alloc inf25 rfl (fun z3 => ?_)))))))))
 refine TO.l rfl (l_sb (v := (.agg #[(vI d.vars), (vI 0), nS, nS])) (vs := [(vI d.vars), (vI 0), nS, nS]) 0 inf25 rfl rfl rfl rfl rfl rfl (by simp [putL]) ?_)
 refine TO.nl (T.s (T.s (T.rg (TO.qa rfl (TO.nl (T.block (T.nilRow 4 1 ?_)))))))
 refine T.nilRow 48 1 ?_
 refine T.loop (fun (i : Nat) ρ O => ∃ (ob fb9 : Option Addr) (oc fc9 : Nat) (qs : List Rec), O = ([rowI ob oc 48 1 (vals qs), rowI fb9 fc9 4 1 (bools (((order d).take i).map fun o => d.final.getD o false)), oI z3 25 [(vI d.vars), (vI 0), (.slice ob i oc), (.slice fb9 i fc9)], rowI lb lc 3 1 (nats (order d)), oI z2 25 [(vI 0), (vI 0), nS, nS], oI z1 25 [(vI d.vars), (vI d.start), (.slice nb d.next.length nc), (.slice fb d.final.length fc)]] ++ (itms 3 qs)) ∧ i ≤ (order d).length ∧ nums qs = (renum d).next.take i ∧ Heads [(0, (.agg #[(vI d.vars), (vI d.start), (.slice nb d.next.length nc), (.slice fb d.final.length fc)])), (1, (.pointer (aD z1))), (2, (.pointer (aD z2))), (3, vI 0), (4, vI ((0 : Nat) : Int)), (5, (.slice lb ((order d).length) lc)), (6, (.pointer (aD z3))), (7, vI (i : Int))] ρ) (fun i => (order d).length - i) 0 ?_ ?_
 ·refine ⟨none, none, 0, 0, [], ?_, Nat.zero_le _, rfl, (.of rfl)⟩
  rfl
 rintro i ρ O ⟨ob, fb9, oc, fc9, qs, rfl, hi, hqs, hH⟩
 obtain ⟨ρ0, rfl⟩ := hH.elim
 clear hH
 have hql : qs.length = i := by
  have := congrArg List.length hqs
  simp [renum_next] at this
  omega
 refine T.s (T.s (T.rg (TO.qm rfl (TO.qm rfl (TO.q (q_len underlying48 rfl) (TO.q (q_lss rfl rfl) (TO.nl (T.condP rfl (fun hc => ?_) (fun hc => ?_)))))))))
 ·have hlt24 : i < (order d).length := by omega
  obtain ⟨o, hog⟩ : ∃ o, (order d)[i] = o := ⟨_, rfl⟩
  have ho : (order d)[i]? = some o := by rw [List.getElem?_eq_getElem hlt24, hog]
  have hom := List.mem_of_getElem? ho
  have ho9 := order_lt hv o hom
  have hof : o < d.final.length := by omega
  obtain ⟨vb, vc, g1, s1⟩ := h.rows.get ho9
  have hl1 : d.next[o].length = 2 ^ d.vars.toNat := hv.len _ (List.getElem_mem ho9)
  refine T.skip (T.s (T.block (T.s (T.rg (TO.qa rfl (TO.nl (T.s (T.s (T.rg (TO.qa rfl (TO.nl (T.block (T.nilRow 3 1 ?_)))))))))))))
  refine T.loop (fun (x : Nat) ρ O => ∃ (kb : Option Addr) (kc : Nat), O = ([rowI kb kc 3 1 (nats ((renRow d o).take x)), rowI ob oc 48 1 (vals qs), rowI fb9 fc9 4 1 (bools (((order d).take i).map fun o => d.final.getD o false)), oI z3 25 [(vI d.vars), (vI 0), (.slice ob i oc), (.slice fb9 i fc9)], rowI lb lc 3 1 (nats (order d)), oI z2 25 [(vI 0), (vI 0), nS, nS], oI z1 25 [(vI d.vars), (vI d.start), (.slice nb d.next.length nc), (.slice fb d.final.length fc)]] ++ (itms 3 qs)) ∧ x ≤ 2 ^ d.vars.toNat ∧ Heads [(0, (.agg #[(vI d.vars), (vI d.start), (.slice nb d.next.length nc), (.slice fb d.final.length fc)])), (1, (.pointer (aD z1))), (2, (.pointer (aD z2))), (3, vI 0), (4, vI ((0 : Nat) : Int)), (5, (.slice lb ((order d).length) lc)), (6, (.pointer (aD z3))), (7, vI (i : Int)), (8, (.slice kb x kc)), (9, vI (x : Int))] ρ) (fun x => 2 ^ d.vars.toNat - x) 0 ?_ ?_
  ·exact ⟨none, 0, rfl, Nat.zero_le _, (.of rfl)⟩
  rintro x ρ O ⟨kb, kc, rfl, hx, hH⟩
  obtain ⟨ρ0, rfl⟩ := hH.elim
  clear hH
  refine T.s (T.s ?_)
  refine T.draws _ [(0, 0), (1, 0), (2, 0), (3, 0), (4, 0), (5, 0), (6, 0), (7, 0), (8, 0), (9, 0), (10, 0)] mixed (by kernel_rfl) (Sub.of (List.Sublist.refl _)) (fun _ _ _ h => h) ?_
  refine DO.q rfl (q_move rfl) (DO.q rfl (q_fa underlying25 rfl inf22 rfl rfl) (DO.q rfl (q_lb 6 underlying22 rfl rfl rfl rfl) (DO.q rfl (q_move rfl) ?_)))
  refine DO.q rfl (q_move rfl) (DO.q rfl (q_ix (i := i) underlying48 inf3 rfl rfl (rowO (mG 4 rfl)) hlt24 (by rw [List.length_map]; exact hlt24)) (DO.q rfl (q_ld underlying3 rfl rfl (rowO (mG 4 rfl)) (show (nats (order d))[i]? = some (vI ((o : Nat) : Int)) by rw [List.getElem?_map, ho]; rfl)) (DO.q rfl (q_ix (i := o) underlying22 inf48 rfl rfl (Sl.o h.outer) ho9 (hvl ▸ ho9)) ?_)))
  refine DO.q rfl (q_ld underlying48 rfl rfl (Sl.o h.outer) g1) (DO.q rfl (q_len underlying48 rfl) (DO.q rfl (q_lss rfl rfl) ?_))
  refine DO.done ?_
  refine T.condP rfl (fun hc => ?_) (fun hc => ?_)
  ·have hlt37 : x < d.next[o].length := by omega
   have hlx : x < 2 ^ d.vars.toNat := by omega
   obtain ⟨hta, _, hxk1, hx1⟩ := hv.toN_lt ho9 hlx
   have hx1 : (ints d.next[o])[x]? = some (vI ((toN d o x : Nat) : Int)) := by rw [ints_get hxk1, hx1]
   have hin : toN d o x ∈ order d := order_closed hv o hom _ (List.mem_of_getElem? (sucs_get hlx))
   refine T.skip (T.s (T.block ?_))
   refine T.draws _ [(0, 0), (1, 0), (2, 0), (3, 0), (4, 0), (5, 0), (6, 0), (7, 0), (8, 0), (9, 0), (10, 0), (11, 0), (12, 0), (13, 1), (14, 1), (15, 2), (16, 2)] mixed (drawF_ok (by kernel_rfl)) (Sub.of (List.Sublist.refl _)) (fun _ _ _ h => h) ?_
   refine DO.q rfl (q_move rfl) (DO.q rfl (q_move rfl) (DO.q rfl (q_fa underlying25 rfl inf22 rfl rfl) (DO.q rfl (q_lb 6 underlying22 rfl rfl rfl rfl) ?_)))
   refine DO.q rfl (q_move rfl) (DO.q rfl (q_move rfl) (DO.q rfl (q_ix (i := i) underlying48 inf3 rfl rfl (rowO (mG 4 rfl)) hlt24 (by rw [List.length_map]; exact hlt24)) (DO.q rfl (q_ld underlying3 rfl rfl (rowO (mG 4 rfl)) (show (nats (order d))[i]? = some (vI ((o : Nat) : Int)) by rw [List.getElem?_map, ho]; rfl)) ?_)))
   refine DO.q rfl (q_ix (i := o) underlying22 inf48 rfl rfl (Sl.o h.outer) ho9 (hvl ▸ ho9)) (DO.q rfl (q_ld underlying48 rfl rfl (Sl.o h.outer) g1) (DO.q rfl (q_move rfl) (DO.q rfl (q_ix (i := x) underlying48 inf3 rfl rfl (Sl.o s1) (by rw [hl1]; exact hlx) (by rw [List.length_map, hl1]; exact hlx)) (DO.q rfl (q_ld underlying3 rfl rfl (Sl.o s1) hx1) ?_))))
   have hk53 := fun (w1 : World) (hI : Inv w ([rowI kb kc 3 1 (nats ((renRow d o).take x)), rowI ob oc 48 1 (vals qs), rowI fb9 fc9 4 1 (bools (((order d).take i).map fun o => d.final.getD o false)), oI z3 25 [(vI d.vars), (vI 0), (.slice ob i oc), (.slice fb9 i fc9)], rowI lb lc 3 1 (nats (order d)), oI z2 25 [(vI 0), (vI 0), nS, nS], oI z1 25 [(vI d.vars), (vI d.start), (.slice nb d.next.length nc), (.slice fb d.final.length fc)]] ++ (itms 3 qs)) w1) => (haveI := Inv.tab (P := Tryz.prog) hI; numberC w1 lb lc (order d) (toN d o x) _ rfl (hI.slOf (mG 4 rfl)) (by omega) hin)
   refine DO.loud rfl rfl (l_call ent94 (CallT.op hk53) rfl ?_)
   clear hk53
   rintro v O' ⟨N, rfl, rfl, rfl⟩
   refine ⟨Sub.pickR [0, 0, 0, 0, 0, 0, 0] [rowI kb kc 3 1 (nats ((renRow d o).take x)), rowI ob oc 48 1 (vals qs), rowI fb9 fc9 4 1 (bools (((order d).take i).map fun o => d.final.getD o false)), oI z3 25 [(vI d.vars), (vI 0), (.slice ob i oc), (.slice fb9 i fc9)], rowI lb lc 3 1 (nats (order d)), oI z2 25 [(vI 0), (vI 0), nS, nS], oI z1 25 [(vI d.vars), (vI d.start), (.slice nb d.next.length nc), (.slice fb d.final.length fc)]] (itms 3 qs) rfl rfl, ?_⟩
   refine DO.loud rfl rfl (l_build1 (v := vI ((ix (toN d o x) (order d) : Nat) : Int)) underlying48 inf3 rfl rfl rfl (fun z4 => ⟨Sub.pickR [1, 1, 1, 1, 1, 1, 1] [rowI (aD z4) 1 3 1 [vI ((ix (toN d o x) (order d) : Nat) : Int)], rowI kb kc 3 1 (nats ((renRow d o).take x)), rowI ob oc 48 1 (vals qs), rowI fb9 fc9 4 1 (bools (((order d).take i).map fun o => d.final.getD o false)), oI z3 25 [(vI d.vars), (vI 0), (.slice ob i oc), (.slice fb9 i fc9)], rowI lb lc 3 1 (nats (order d)), oI z2 25 [(vI 0), (vI 0), nS, nS], oI z1 25 [(vI d.vars), (vI d.start), (.slice nb d.next.length nc), (.slice fb d.final.length fc)]] (itms 3 qs) rfl rfl, ?_⟩))
   refine DO.last rfl rfl (l_append 1 underlying48 underlying48 inf3 rfl rfl rfl rfl (by rw [List.length_map, List.length_take, renRow_length]; omega) (by decide) (Src.row (j := 0) rfl (by simp)) (by simp [oneB]) (by omega) (by decide) (by decide) (fun z5 zc6 => ?_))
   refine DO.last rfl rfl (LT.oq rfl rfl (q_assign rfl) ?_)
   refine DO.done ?_
   refine T.rg (TO.qm rfl (TO.q (q_inc rfl rfl (by omega)) (TO.qa rfl ?_)))
   refine TO.sub (O' := ([rowI z5 zc6 3 1 ((nats ((renRow d o).take x)) ++ [vI ((ix (toN d o x) (order d) : Nat) : Int)]), rowI ob oc 48 1 (vals qs), rowI fb9 fc9 4 1 (bools (((order d).take i).map fun o => d.final.getD o false)), oI z3 25 [(vI d.vars), (vI 0), (.slice ob i oc), (.slice fb9 i fc9)], rowI lb lc 3 1 (nats (order d)), oI z2 25 [(vI 0), (vI 0), nS, nS], oI z1 25 [(vI d.vars), (vI d.start), (.slice nb d.next.length nc), (.slice fb d.final.length fc)]] ++ (itms 3 qs))) (Sub.pickR [1, 1, 1, 1, 1, 1, 1] [rowI (aD z4) 1 3 1 [vI ((ix (toN d o x) (order d) : Nat) : Int)], rowI z5 zc6 3 1 ((nats ((renRow d o).take x)) ++ [vI ((ix (toN d o x) (order d) : Nat) : Int)]), rowI ob oc 48 1 (vals qs), rowI fb9 fc9 4 1 (bools (((order d).take i).map fun o => d.final.getD o false)), oI z3 25 [(vI d.vars), (vI 0), (.slice ob i oc), (.slice fb9 i fc9)], rowI lb lc 3 1 (nats (order d)), oI z2 25 [(vI 0), (vI 0), nS, nS], oI z1 25 [(vI d.vars), (vI d.start), (.slice nb d.next.length nc), (.slice fb d.final.length fc)]] (itms 3 qs) rfl rfl) ?_
   refine TO.nl ?_
   exact ⟨x + 1, by omega, z5, zc6, by rw [renRow_step hlx, show nats ((renRow d o).take x ++ [ix (toN d o x) (order d)]) = nats ((renRow d o).take x) ++ [vI ((ix (toN d o x) (order d) : Nat) : Int)] from List.map_append], by omega, (.of rfl)⟩
  have hge37 : ¬ x < d.next[o].length := by omega
  refine T.exit ?_
  refine T.s (T.rg (TO.q (q_fa underlying25 rfl inf22 rfl rfl) (TO.q (q_lb 3 underlying22 rfl rfl rfl rfl) (TO.qm rfl (TO.l rfl (l_build1 (v := (.slice kb x kc)) underlying22 inf48 rfl rfl rfl (fun z7 => ?_)))))))
  refine TO.l rfl (l_append 2 underlying22 underlying22 inf48 rfl rfl rfl rfl (by rw [List.length_map]; omega) (by decide) (Src.row (j := 0) rfl (by simp)) (by simp [oneB]) (by omega) (by decide) (by decide) (fun z8 zc9 => ?_))
  refine TO.q (q_fa underlying25 rfl inf22 rfl rfl) (TO.l rfl (l_sb (v := (.slice z8 (i + 1) zc9)) (vs := [(.slice z8 (i + 1) zc9)]) 4 inf22 rfl rfl rfl rfl rfl rfl (by simp [putL]) ?_))
  refine TO.nl ?_
  refine T.draws _ [(0, 0), (1, 0), (2, 0), (3, 0), (4, 0), (5, 0), (6, 0), (7, 0), (8, 0), (9, 0), (10, 1), (11, 2), (12, 2), (13, 2)] mixed (drawF_ok (by kernel_rfl)) (Sub.of (List.Sublist.refl _)) (fun _ _ _ h => h) ?_
  refine DO.q rfl (q_fa underlying25 rfl inf23 rfl rfl) (DO.q rfl (q_lb 4 underlying23 rfl rfl rfl rfl) (DO.q rfl (q_fa underlying25 rfl inf23 rfl rfl) (DO.q rfl (q_lb 7 underlying23 rfl rfl rfl rfl) ?_)))
  refine DO.q rfl (q_move rfl) (DO.q rfl (q_move rfl) (DO.q rfl (q_ix (i := i) underlying48 inf3 rfl rfl (rowO (mG 5 rfl)) hlt24 (by rw [List.length_map]; exact hlt24)) (DO.q rfl (q_ld underlying3 rfl rfl (rowO (mG 5 rfl)) (show (nats (order d))[i]? = some (vI ((o : Nat) : Int)) by rw [List.getElem?_map, ho]; rfl)) ?_)))
  refine DO.q rfl (q_ix (i := o) underlying23 inf4 rfl rfl (Sl.o h.final) hof (by rw [List.length_map]; exact hof)) (DO.q rfl (q_ld underlying4 rfl rfl (Sl.o h.final) (bools_get hof)) ?_)
  refine DO.loud rfl rfl (l_build1 (v := .bool d.final[o]) underlying23 inf4 rfl rfl rfl (fun z10 => ⟨Sub.pickR [1, 1, 1, 1, 1, 1, 1, 1] [rowI (aD z10) 1 4 1 [.bool d.final[o]], rowI (aD z7) 1 48 1 [(.slice kb x kc)], rowI kb kc 3 1 (nats ((renRow d o).take x)), rowI z8 zc9 48 1 ((vals qs) ++ [(.slice kb x kc)]), rowI fb9 fc9 4 1 (bools (((order d).take i).map fun o => d.final.getD o false)), oI z3 25 [(vI d.vars), (vI 0), (.slice z8 (i + 1) zc9), (.slice fb9 i fc9)], rowI lb lc 3 1 (nats (order d)), oI z2 25 [(vI 0), (vI 0), nS, nS], oI z1 25 [(vI d.vars), (vI d.start), (.slice nb d.next.length nc), (.slice fb d.final.length fc)]] (itms 3 qs) rfl rfl, ?_⟩))
  refine DO.last rfl rfl (l_append 4 underlying23 underlying23 inf4 rfl rfl rfl rfl (by simp; omega) (by decide) (Src.row (j := 0) rfl (by simp)) (by simp [oneB]) (by omega) (by decide) (by decide) (fun z11 zc12 => ?_))
  refine DO.last rfl rfl (LT.oq rfl rfl (q_fa underlying25 rfl inf23 rfl rfl) ?_)
  refine DO.last rfl rfl (l_sb (v := (.slice z11 (i + 1) zc12)) (vs := [(.slice z11 (i + 1) zc12)]) 5 inf23 rfl rfl rfl rfl rfl rfl (by simp [putL]) ?_)
  refine DO.done ?_
  refine T.rg (TO.qm rfl (TO.q (q_inc rfl rfl (by omega)) (TO.qa rfl ?_)))
  have hxe : x = 2 ^ d.vars.toNat := by omega
  have hfs : bools (((order d).take (i + 1)).map fun o => d.final.getD o false) = bools (((order d).take i).map fun o => d.final.getD o false) ++ [.bool d.final[o]] := by
   rw [List.take_succ_eq_append_getElem hlt24, List.map_append, hog]; simp [hof]
  have hR : rowI kb kc 3 1 (nats ((renRow d o).take x)) = Rec.itm 3 ⟨kb, kc, (renRow d o).map fun x : Nat => (x : Int)⟩ := by
   rw [List.take_of_length_le (by rw [renRow_length]; omega)]; simp [Rec.itm, Function.comp_def]
  refine TO.sub (O' := [rowI z8 zc9 48 1 ((vals qs) ++ [(.slice kb x kc)]), rowI z11 zc12 4 1 ((bools (((order d).take i).map fun o => d.final.getD o false)) ++ [.bool d.final[o]]), oI z3 25 [(vI d.vars), (vI 0), (.slice z8 (i + 1) zc9), (.slice z11 (i + 1) zc12)], rowI lb lc 3 1 (nats (order d)), oI z2 25 [(vI 0), (vI 0), nS, nS], oI z1 25 [(vI d.vars), (vI d.start), (.slice nb d.next.length nc), (.slice fb d.final.length fc)]] ++ itms 3 (qs ++ [⟨kb, kc, (renRow d o).map fun x : Nat => (x : Int)⟩])) (by show Sub _ ([rowI (aD z10) 1 4 1 [.bool d.final[o]], rowI (aD z7) 1 48 1 [(.slice kb x kc)], rowI kb kc 3 1 (nats ((renRow d o).take x)), rowI z8 zc9 48 1 ((vals qs) ++ [(.slice kb x kc)]), rowI z11 zc12 4 1 ((bools (((order d).take i).map fun o => d.final.getD o false)) ++ [.bool d.final[o]]), oI z3 25 [(vI d.vars), (vI 0), (.slice z8 (i + 1) zc9), (.slice z11 (i + 1) zc12)], rowI lb lc 3 1 (nats (order d)), oI z2 25 [(vI 0), (vI 0), nS, nS], oI z1 25 [(vI d.vars), (vI d.start), (.slice nb d.next.length nc), (.slice fb d.final.length fc)]] ++ itms 3 qs); rw [hR]; exact Sub.ca [rowI (aD z10) 1 4 1 [.bool d.final[o]], rowI (aD z7) 1 48 1 [(.slice kb x kc)]]) ?_
  refine TO.nl ?_
  refine ⟨i + 1, by omega, z8, z11, zc9, zc12, qs ++ [⟨kb, kc, (renRow d o).map fun x : Nat => (x : Int)⟩], ?_, by omega, ?_, (.of rfl)⟩
  ·rw [hfs]; simp [Rec.val, hxe, renRow_length]
  ·rw [show nums (qs ++ [⟨kb, kc, (renRow d o).map fun x : Nat => (x : Int)⟩]) = nums qs ++ [(renRow d o).map fun x : Nat => (x : Int)] by simp, hqs, renum_next, ← List.map_take, ← List.map_take, List.take_succ_eq_append_getElem hlt24, hog]; simp
 have hge24 : ¬ i < (order d).length := by omega
 refine T.exit ?_
 refine T.s (T.rg (TO.q (q_la 2 underlying25 rfl inf25 rfl rfl rfl) (TO.l rfl (l_sb (v := (.agg #[(vI d.vars), (vI 0), (.slice ob i oc), (.slice fb9 i fc9)])) (vs := [(vI d.vars), (vI 0), (.slice ob i oc), (.slice fb9 i fc9)]) 4 inf25 rfl rfl rfl rfl rfl rfl (by simp [putL]) ?_))))
 refine TO.qa rfl (TO.nl (T.ret (Res.drop ?_)))
 refine Res.cell1b (vI 0) (i := 4) Tryz.results70 underlying25 rfl inf25 rfl rfl rfl rfl ?_
 have hie : i = (order d).length := by omega
 have hfx : (((order d).take i).map fun o => d.final.getD o false) = (renum d).final := by rw [List.take_of_length_le (by omega)]; rfl
 have hl1 : (renum d).next.length = i := by simp [renum, hie]
 have hl2 : (renum d).final.length = i := by simp [renum, hie]
 have hnx : nums qs = (renum d).next := by rw [hqs, List.take_of_length_le (by omega)]
 refine ⟨[rowI ob oc 48 1 (vals qs), rowI fb9 fc9 4 1 (bools (((order d).take i).map fun o => d.final.getD o false))] ++ itms 3 qs, Sub.ca [oI z3 25 [(vI d.vars), (vI 0), (.slice ob i oc), (.slice fb9 i fc9)], rowI lb lc 3 1 (nats (order d)), oI z2 25 [(vI d.vars), (vI 0), (.slice ob i oc), (.slice fb9 i fc9)], oI z1 25 [(vI d.vars), (vI d.start), (.slice nb d.next.length nc), (.slice fb d.final.length fc)]], ob, oc, fb9, fc9, qs, ?_, by rw [hfx], hnx⟩
 show Value.tuple #[Value.agg (List.toArray [vI d.vars, vI 0, .slice ob i oc, .slice fb9 i fc9]), _] = Value.tuple #[Value.agg (List.toArray [vI d.vars, vI 0, .slice ob (renum d).next.length oc, .slice fb9 (renum d).final.length fc9]), _]
 rw [hl1, hl2]
end Go.Proofs.YtnpehjpookcfkaaGreatDoor


namespace Go.Proofs.YtnpehjpookcfkaaGreatDoor
open Go.Lx Go.RowKit _root_.Go.Proofs.Tryz
theorem rMinBad (w : World) [Tab Tryz.prog w] (d : DFA) (nb fb : Option Addr) (nc fc : Nat) (vs : List Value) (h : DfaAt w d nb vs fb) (hb : d.next.length < 9223372036854775807) (hbr : ∀ r ∈ d.next, r.length < 9223372036854775807) (hbf : d.final.length < 9223372036854775807) (he : checkD d ≠ 0) :
  PureT Tryz.prog 41 [.agg (dfaCells d nb nc fb fc).toArray] w fun v N => v = .tuple #[.agg #[vI 0, vI 0, nS, nS], vI (checkD d : Int)] ∧ N = [] := by
 refine CallT.enter func41 rfl ntmps41 rfl ?_
 refine T.s (T.rg (TO.l rfl (l_box (v := (.agg #[(vI d.vars), (vI d.start), (.slice nb d.next.length nc), (.slice fb d.final.length fc)])) (cs := [(vI d.vars), (vI d.start), (.slice nb d.next.length nc), (.slice fb d.final.length fc)]) rfl rfl (fun b1 => ?_))))
 refine TO.l rfl (l_alloc inf25 rfl (fun b2 => ?_))
 refine TO.qa rfl (TO.nl (T.s (T.rg (TO.q (q_la 1 underlying25 rfl inf25 rfl rfl rfl) ?_))))
 have hk12 := fun (w1 : World) (hI : Inv w [oI b2 25 [(vI 0), (vI 0), nS, nS], oI b1 25 [(vI d.vars), (vI d.start), (.slice nb d.next.length nc), (.slice fb d.final.length fc)]] w1) => (haveI := Inv.tab (P := Tryz.prog) hI; rClassesBad w1 d nb fb nc fc vs (hI.dfa h) hb hbr hbf he)
 refine TO.l rfl (l_call ent69 (CallT.op hk12) rfl ?_)
 clear hk12
 rintro v O' ⟨N, rfl, rfl, rfl⟩
 refine TO.qm rfl (TO.q (q_extract (vs := _) rfl rfl) (TO.q (q_extract (vs := _) rfl rfl) (TO.qa rfl (TO.qa rfl (TO.nl (T.s (T.s (T.rg (TO.qm rfl (TO.q (QT.toB (q_neq rfl rfl) (decide_eq_true (by omega))) (TO.nl ?_)))))))))))
 refine T.cond1 rfl ?_
 refine T.s (T.rg (TO.q (q_build plan25 inf25 rfl) (TO.qm rfl (TO.l rfl (l_sb (v := (.agg #[(vI 0), (vI 0), nS, nS])) (vs := [(vI 0), (vI 0), nS, nS]) 0 inf25 rfl rfl rfl rfl rfl rfl (by simp [putL]) ?_)))))
 refine TO.qa rfl (TO.nl (T.ret (Res.drop ?_)))
 refine Res.cell1b (vI (checkD d : Int)) (i := 0) Tryz.results41 underlying25 rfl inf25 rfl rfl rfl rfl ?_
 exact ⟨[], Sub.of (List.nil_sublist _), rfl, rfl⟩
theorem rMinOk (w : World) [Tab Tryz.prog w] (d : DFA) (nb fb : Option Addr) (nc fc : Nat) (vs : List Value) (h : DfaAt w d nb vs fb) (hv : Valid d) (hn : d.next.length < 10000) (hqv : Valid (quo d (itF d d.next.length))) (hqn : (quo d (itF d d.next.length)).next.length < 10000) :
  PureT Tryz.prog 41 [.agg (dfaCells d nb nc fb fc).toArray] w fun v N => ∃ nb' nc' fb' fc' qs, v = .tuple #[.agg (dfaCells (renum (quo d (itF d d.next.length))) nb' nc' fb' fc').toArray, vI 0] ∧ N = [rowI nb' nc' 48 1 (vals qs), rowI fb' fc' 4 1 (bools (renum (quo d (itF d d.next.length))).final)] ++ itms 3 qs ∧ nums qs = (renum (quo d (itF d d.next.length))).next := by
 refine CallT.enter func41 rfl ntmps41 rfl ?_
 obtain ⟨cs, hcs⟩ : ∃ cs, itF d d.next.length = cs := ⟨_, rfl⟩
 rw [hcs] at hqv hqn ⊢
 have hcl : cs.length = d.next.length := hcs ▸ itF_length d _
 have hs0 := hv.s0
 have hs1 := hv.s1
 have hn0 := hv.n0
 have hn4 := hv.n4
 have hsn : d.start.toNat < cs.length := by omega
 have hb : d.next.length < 9223372036854775807 := by omega
 have hvl := h.rows.1
 have hww := hv.width
 refine T.s (T.rg (TO.l rfl (l_box (v := (.agg #[(vI d.vars), (vI d.start), (.slice nb d.next.length nc), (.slice fb d.final.length fc)])) (cs := [(vI d.vars), (vI d.start), (.slice nb d.next.length nc), (.slice fb d.final.length fc)]) rfl rfl (fun z1 => ?_))))
 refine TO.l rfl (l_alloc inf25 rfl (fun z2 => ?_))
 refine TO.qa rfl (TO.nl (T.s (T.rg (TO.q (q_la 1 underlying25 rfl inf25 rfl rfl rfl) ?_))))
 have hk12 := fun (w1 : World) (hI : Inv w [oI z2 25 [(vI 0), (vI 0), nS, nS], oI z1 25 [(vI d.vars), (vI d.start), (.slice nb d.next.length nc), (.slice fb d.final.length fc)]] w1) => (haveI := Inv.tab (P := Tryz.prog) hI; rClassesOk w1 d nb fb nc fc vs (hI.dfa h) hv hn)
 refine TO.l rfl (l_call ent69 (CallT.op hk12) rfl ?_)
 clear hk12
 rintro v O' ⟨N, rfl, cb, cc, rfl, rfl⟩
 rw [hcs]
 refine TO.qm rfl (TO.q (q_extract (vs := _) rfl rfl) (TO.q (q_extract (vs := _) rfl rfl) (TO.qa rfl (TO.qa rfl (TO.nl (T.s (T.s (T.rg (TO.qm rfl (TO.q (q_neq rfl rfl) (TO.nl (T.cond0 rfl (T.skip (T.s ?_))))))))))))))
 refine T.draws [rowI cb cc 3 1 (nats cs), oI z1 25 [(vI d.vars), (vI d.start), (.slice nb d.next.length nc), (.slice fb d.final.length fc)]] [(0, 0), (1, 0), (2, 0), (3, 0), (4, 0), (5, 0), (6, 0), (7, 0), (8, 1), (9, 2)] mixed (by kernel_rfl) (Sub.pick [0, 1] rfl) (fun _ _ _ h => h) ?_
 refine DO.q rfl (q_fa underlying25 rfl inf3 rfl rfl) (DO.q rfl (q_lb 1 underlying3 rfl rfl rfl rfl) (DO.q rfl (q_move rfl) (DO.q rfl (q_fa underlying25 rfl inf3 rfl rfl) (DO.q rfl (q_lb 1 underlying3 rfl rfl rfl rfl) (DO.q rfl (q_ixz (i := d.start) underlying48 inf3 rfl rfl (rowO (mG 0 rfl)) hs0 (hcl ▸ hsn) (by rw [List.length_map]; exact hsn)) (DO.q rfl (q_ld underlying3 rfl rfl (rowO (mG 0 rfl)) (show (nats cs)[d.start.toNat]? = some (vI ((cs.getD d.start.toNat 0 : Nat) : Int)) by rw [nats_get hsn]; simp [hsn])) (DO.q rfl (q_build (cs := [(vI d.vars), vI ((cs.getD d.start.toNat 0 : Nat) : Int), nS, nS]) plan25 inf25 (by kernel_rfl)) ?_)))))))
 refine DO.loud rfl rfl (l_alloc inf25 rfl (fun z3 => ⟨Sub.pick [1, 2] rfl, ?_⟩))
 refine DO.last rfl rfl (l_sb (v := (.agg #[(vI d.vars), vI ((cs.getD d.start.toNat 0 : Nat) : Int), nS, nS])) (vs := [(vI d.vars), vI ((cs.getD d.start.toNat 0 : Nat) : Int), nS, nS]) 0 inf25 rfl rfl rfl rfl rfl rfl (by simp [putL]) ?_)
 refine DO.done ?_
 refine T.s (T.s (T.rg (TO.qa rfl (TO.nl (T.block (T.nilRow 4 1 ?_))))))
 refine T.nilRow 48 1 ?_
 refine T.loop (fun (k : Nat) ρ O => ∃ (ob fb9 : Option Addr) (oc fc9 : Nat) (qs : List Rec) (fs : List Bool), O = ([rowI ob oc 48 1 (vals qs), rowI fb9 fc9 4 1 (bools fs), oI z3 25 [(vI d.vars), (vI ((cs.getD d.start.toNat 0 : Nat) : Int)), (.slice ob qs.length oc), (.slice fb9 fs.length fc9)], rowI cb cc 3 1 (nats cs), oI z2 25 [(vI 0), (vI 0), nS, nS], oI z1 25 [(vI d.vars), (vI d.start), (.slice nb d.next.length nc), (.slice fb d.final.length fc)]] ++ (itms 3 qs)) ∧ k ≤ d.next.length ∧ nums qs = (quoN d cs k).1 ∧ fs = (quoN d cs k).2 ∧ Heads [(0, (.agg #[(vI d.vars), (vI d.start), (.slice nb d.next.length nc), (.slice fb d.final.length fc)])), (1, (.pointer (aD z1))), (2, (.pointer (aD z2))), (3, vI 0), (4, (.slice cb d.next.length cc)), (5, vI 0), (6, (.pointer (aD z3))), (7, vI (k : Int))] ρ) (fun k => d.next.length - k) 0 ?_ ?_
 ·exact ⟨none, none, 0, 0, [], [], rfl, Nat.zero_le _, rfl, rfl, (.of rfl)⟩
 rintro k ρ O ⟨ob, fb9, oc, fc9, qs, fs, rfl, hk, hqs, hfs, hH⟩
 obtain ⟨ρ0, rfl⟩ := hH.elim
 clear hH
 refine T.s (T.s (T.rg (TO.qm rfl (TO.qm rfl (TO.q (q_len underlying48 rfl) (TO.q (q_lss rfl rfl) (TO.nl (T.condP rfl (fun hc => ?_) (fun hc => ?_)))))))))
 ·have hlt30 : k < d.next.length := by omega
  have hkc : k < cs.length := by omega
  have hql : qs.length = (quoN d cs k).1.length := by rw [← hqs]; simp
  have hfl : fs.length = (quoN d cs k).1.length := by rw [hfs]; exact (quoN_len d cs k).1.symm
  have hqk := (quoN_len d cs k).2
  have hkf : k < d.final.length := by have := hv.fin; omega
  obtain ⟨vb, vc, g1, s1⟩ := h.rows.get hlt30
  have hrl : d.next[k].length ≤ 64 := by
   have := hv.len _ (List.getElem_mem hlt30); omega
  have hto : ∀ j (hj : j < d.next[k].length), 0 ≤ d.next[k][j] ∧ d.next[k][j].toNat < cs.length := fun j hj => by have := hv.ok _ (List.getElem_mem hlt30) _ (List.getElem_mem hj); omega
  refine T.skip (T.s (T.block (T.s (T.s ?_))))
  refine T.draws [oI z3 25 [(vI d.vars), (vI ((cs.getD d.start.toNat 0 : Nat) : Int)), (.slice ob qs.length oc), (.slice fb9 fs.length fc9)], rowI cb cc 3 1 (nats cs)] [(0, 0), (1, 0), (2, 0), (3, 0), (4, 0), (5, 0), (6, 0), (7, 0)] mixed (by kernel_rfl) (Sub.pick0 [2, 2] [rowI ob oc 48 1 (vals qs), rowI fb9 fc9 4 1 (bools fs), oI z3 25 [(vI d.vars), (vI ((cs.getD d.start.toNat 0 : Nat) : Int)), (.slice ob qs.length oc), (.slice fb9 fs.length fc9)], rowI cb cc 3 1 (nats cs), oI z2 25 [(vI 0), (vI 0), nS, nS], oI z1 25 [(vI d.vars), (vI d.start), (.slice nb d.next.length nc), (.slice fb d.final.length fc)]] (itms 3 qs) rfl rfl) (fun _ _ _ h => h) ?_
  refine DO.q rfl (q_move rfl) (DO.q rfl (q_move rfl) (DO.q rfl (q_ix (i := k) underlying48 inf3 rfl rfl (rowO (mG 1 rfl)) hlt30 (by rw [List.length_map]; exact hkc)) (DO.q rfl (q_ld underlying3 rfl rfl (rowO (mG 1 rfl)) (nats_get hkc)) (DO.q rfl (q_fa underlying25 rfl inf22 rfl rfl) (DO.q rfl (q_lb 0 underlying22 rfl rfl rfl rfl) (DO.q rfl (q_len underlying22 rfl) (DO.q rfl (q_lss rfl rfl) ?_)))))))
  refine DO.done ?_
  refine T.condP rfl (fun hc => ?_) (fun hc => ?_)
  ·have hlt40 : cs[k] < qs.length := by omega
   have hqn1 : quoN d cs (k + 1) = quoN d cs k := by rw [quoN, if_pos (by simp [hkc]; omega)]
   refine T.exit ?_
   refine T.rg (TO.qm rfl (TO.q (q_inc rfl rfl (by omega)) (TO.qa rfl ?_)))
   skip
   refine TO.nl ?_
   refine ⟨k + 1, by omega, ob, fb9, oc, fc9, qs, fs, rfl, by omega, ?_, ?_, (.of rfl)⟩
   ·rw [hqn1]; exact hqs
   ·rw [hqn1]; exact hfs
  have hge40 : ¬ cs[k] < qs.length := by omega
  have hqn2 : quoN d cs (k + 1) = ((quoN d cs k).1 ++ [(rowK cs d.next[k]).map fun c : Nat => (c : Int)], (quoN d cs k).2 ++ [d.final[k]]) := by rw [quoN, if_neg (by simp [hkc]; omega)]; simp [hlt30, hkf]
  refine T.skip (T.s (T.rg (TO.qa rfl (TO.nl (T.s (T.s (T.rg (TO.qa rfl (TO.nl (T.block (T.nilRow 3 1 ?_)))))))))))
  refine T.loop (fun (j : Nat) ρ O => ∃ (kb : Option Addr) (kc : Nat), O = ([rowI kb kc 3 1 (nats ((rowK cs d.next[k]).take j)), rowI ob oc 48 1 (vals qs), rowI fb9 fc9 4 1 (bools fs), oI z3 25 [(vI d.vars), (vI ((cs.getD d.start.toNat 0 : Nat) : Int)), (.slice ob qs.length oc), (.slice fb9 fs.length fc9)], rowI cb cc 3 1 (nats cs), oI z2 25 [(vI 0), (vI 0), nS, nS], oI z1 25 [(vI d.vars), (vI d.start), (.slice nb d.next.length nc), (.slice fb d.final.length fc)]] ++ (itms 3 qs)) ∧ j ≤ d.next[k].length ∧ Heads [(0, (.agg #[(vI d.vars), (vI d.start), (.slice nb d.next.length nc), (.slice fb d.final.length fc)])), (1, (.pointer (aD z1))), (2, (.pointer (aD z2))), (3, vI 0), (4, (.slice cb d.next.length cc)), (5, vI 0), (6, (.pointer (aD z3))), (7, vI (k : Int)), (8, (.slice kb j kc)), (9, vI (j : Int))] ρ) (fun j => d.next[k].length - j) 0 ?_ ?_
  ·exact ⟨none, 0, rfl, Nat.zero_le _, (.of rfl)⟩
  rintro j ρ O ⟨kb, kc, rfl, hj, hH⟩
  obtain ⟨ρ0, rfl⟩ := hH.elim
  clear hH
  refine T.s (T.s (T.rg (TO.qm rfl (TO.q (q_fa underlying25 rfl inf22 rfl rfl) (TO.q (q_lb 6 underlying22 rfl rfl rfl rfl) (TO.qm rfl (TO.q (q_ix (i := k) underlying22 inf48 rfl rfl (Sl.o h.outer) hlt30 (hvl ▸ hlt30)) (TO.q (q_ld underlying48 rfl rfl (Sl.o h.outer) g1) (TO.q (q_len underlying48 rfl) (TO.q (q_lss rfl rfl) (TO.nl (T.condP rfl (fun hc => ?_) (fun hc => ?_)))))))))))))
  ·have hlt48 : j < d.next[k].length := by omega
   have htj := (hto j hlt48).2
   refine T.skip (T.s (T.block (T.rg (TO.qm rfl (TO.qm rfl (TO.q (q_fa underlying25 rfl inf22 rfl rfl) (TO.q (q_lb 6 underlying22 rfl rfl rfl rfl) (TO.qm rfl (TO.q (q_ix (i := k) underlying22 inf48 rfl rfl (Sl.o h.outer) hlt30 (hvl ▸ hlt30)) (TO.q (q_ld underlying48 rfl rfl (Sl.o h.outer) g1) (TO.qm rfl (TO.q (q_ix (i := j) underlying48 inf3 rfl rfl (Sl.o s1) hlt48 (by rw [List.length_map]; exact hlt48)) (TO.q (q_ld underlying3 rfl rfl (Sl.o s1) (ints_get hlt48)) (TO.q (q_ixz (i := d.next[k][j]) underlying48 inf3 rfl rfl (rowO (mG 4 rfl)) (hto j hlt48).1 (hcl ▸ (hto j hlt48).2) (by rw [List.length_map]; exact (hto j hlt48).2)) (TO.q (q_ld underlying3 rfl rfl (rowO (mG 4 rfl)) (nats_get (hto j hlt48).2)) (TO.l rfl (l_build1 (v := vI ((cs[d.next[k][j].toNat] : Nat) : Int)) underlying48 inf3 rfl rfl rfl (fun z4 => ?_))))))))))))))))))
   refine TO.l rfl (l_append 1 underlying48 underlying48 inf3 rfl rfl rfl rfl (by rw [List.length_map, List.length_take, rowK_length]; omega) (by decide) (Src.row (j := 0) rfl (by simp)) (by simp [oneB]) (by omega) (by decide) (by decide) (fun z5 zc6 => ?_))
   refine TO.qa rfl (TO.nl (T.rg (TO.qm rfl (TO.q (q_inc rfl rfl (by omega)) (TO.qa rfl ?_)))))
   refine TO.sub (O' := ([rowI z5 zc6 3 1 ((nats ((rowK cs d.next[k]).take j)) ++ [vI ((cs[d.next[k][j].toNat] : Nat) : Int)]), rowI ob oc 48 1 (vals qs), rowI fb9 fc9 4 1 (bools fs), oI z3 25 [(vI d.vars), (vI ((cs.getD d.start.toNat 0 : Nat) : Int)), (.slice ob qs.length oc), (.slice fb9 fs.length fc9)], rowI cb cc 3 1 (nats cs), oI z2 25 [(vI 0), (vI 0), nS, nS], oI z1 25 [(vI d.vars), (vI d.start), (.slice nb d.next.length nc), (.slice fb d.final.length fc)]] ++ (itms 3 qs))) (Sub.pickR [1, 1, 1, 1, 1, 1, 1] [rowI (aD z4) 1 3 1 [vI ((cs[d.next[k][j].toNat] : Nat) : Int)], rowI z5 zc6 3 1 ((nats ((rowK cs d.next[k]).take j)) ++ [vI ((cs[d.next[k][j].toNat] : Nat) : Int)]), rowI ob oc 48 1 (vals qs), rowI fb9 fc9 4 1 (bools fs), oI z3 25 [(vI d.vars), (vI ((cs.getD d.start.toNat 0 : Nat) : Int)), (.slice ob qs.length oc), (.slice fb9 fs.length fc9)], rowI cb cc 3 1 (nats cs), oI z2 25 [(vI 0), (vI 0), nS, nS], oI z1 25 [(vI d.vars), (vI d.start), (.slice nb d.next.length nc), (.slice fb d.final.length fc)]] (itms 3 qs) rfl rfl) ?_
   refine TO.nl ?_
   have hst : (rowK cs d.next[k]).take (j + 1) = (rowK cs d.next[k]).take j ++ [cs[d.next[k][j].toNat]] := by rw [List.take_succ_eq_append_getElem (by rw [rowK_length]; exact hlt48), rowK_get hlt48 (hto j hlt48).2]
   exact ⟨j + 1, by omega, z5, zc6, by rw [hst, show nats ((rowK cs d.next[k]).take j ++ [cs[d.next[k][j].toNat]]) = nats ((rowK cs d.next[k]).take j) ++ [vI ((cs[d.next[k][j].toNat] : Nat) : Int)] from List.map_append], by omega, (.of rfl)⟩
  have hge48 : ¬ j < d.next[k].length := by omega
  refine T.exit ?_
  refine T.s (T.rg (TO.q (q_fa underlying25 rfl inf22 rfl rfl) (TO.q (q_lb 3 underlying22 rfl rfl rfl rfl) (TO.qm rfl (TO.l rfl (l_build1 (v := (.slice kb j kc)) underlying22 inf48 rfl rfl rfl (fun z7 => ?_)))))))
  refine TO.l rfl (l_append 2 underlying22 underlying22 inf48 rfl rfl rfl rfl (by rw [List.length_map]; omega) (by decide) (Src.row (j := 0) rfl (by simp)) (by simp [oneB]) (by omega) (by decide) (by decide) (fun z8 zc9 => ?_))
  refine TO.q (q_fa underlying25 rfl inf22 rfl rfl) (TO.l rfl (l_sb (v := (.slice z8 (qs.length + 1) zc9)) (vs := [(.slice z8 (qs.length + 1) zc9)]) 4 inf22 rfl rfl rfl rfl rfl rfl (by simp [putL]) ?_))
  refine TO.nl ?_
  refine T.draws _ [(0, 0), (1, 0), (2, 0), (3, 0), (4, 0), (5, 0), (6, 0), (7, 1), (8, 2), (9, 2), (10, 2)] mixed (by kernel_rfl) (Sub.of (List.Sublist.refl _)) (fun _ _ _ h => h) ?_
  refine DO.q rfl (q_fa underlying25 rfl inf23 rfl rfl) (DO.q rfl (q_lb 4 underlying23 rfl rfl rfl rfl) (DO.q rfl (q_fa underlying25 rfl inf23 rfl rfl) (DO.q rfl (q_lb 7 underlying23 rfl rfl rfl rfl) (DO.q rfl (q_move rfl) (DO.q rfl (q_ix (i := k) underlying23 inf4 rfl rfl (Sl.o h.final) hkf (by rw [List.length_map]; exact hkf)) (DO.q rfl (q_ld underlying4 rfl rfl (Sl.o h.final) (bools_get hkf)) ?_))))))
  refine DO.loud rfl rfl (l_build1 (v := .bool d.final[k]) underlying23 inf4 rfl rfl rfl (fun z10 => ⟨Sub.pickR [1, 1, 1, 1, 1, 1, 1, 1] [rowI (aD z10) 1 4 1 [.bool d.final[k]], rowI (aD z7) 1 48 1 [(.slice kb j kc)], rowI kb kc 3 1 (nats ((rowK cs d.next[k]).take j)), rowI z8 zc9 48 1 ((vals qs) ++ [(.slice kb j kc)]), rowI fb9 fc9 4 1 (bools fs), oI z3 25 [(vI d.vars), (vI ((cs.getD d.start.toNat 0 : Nat) : Int)), (.slice z8 (qs.length + 1) zc9), (.slice fb9 fs.length fc9)], rowI cb cc 3 1 (nats cs), oI z2 25 [(vI 0), (vI 0), nS, nS], oI z1 25 [(vI d.vars), (vI d.start), (.slice nb d.next.length nc), (.slice fb d.final.length fc)]] (itms 3 qs) rfl rfl, ?_⟩))
  refine DO.last rfl rfl (l_append 4 underlying23 underlying23 inf4 rfl rfl rfl rfl (by rw [List.length_map]; omega) (by decide) (Src.row (j := 0) rfl (by simp)) (by simp [oneB]) (by omega) (by decide) (by decide) (fun z11 zc12 => ?_))
  refine DO.last rfl rfl (LT.oq rfl rfl (q_fa underlying25 rfl inf23 rfl rfl) ?_)
  refine DO.last rfl rfl (l_sb (v := (.slice z11 (fs.length + 1) zc12)) (vs := [(.slice z11 (fs.length + 1) zc12)]) 5 inf23 rfl rfl rfl rfl rfl rfl (by simp [putL]) ?_)
  refine DO.done ?_
  refine T.rg (TO.qm rfl (TO.q (q_inc rfl rfl (by omega)) (TO.qa rfl ?_)))
  have hjf : j = d.next[k].length := by omega
  have hR : rowI kb kc 3 1 (nats ((rowK cs d.next[k]).take j)) = Rec.itm 3 ⟨kb, kc, (rowK cs d.next[k]).map fun c : Nat => (c : Int)⟩ := by
   rw [List.take_of_length_le (by rw [rowK_length]; omega)]; simp [Rec.itm, Function.comp_def]
  refine TO.sub (O' := [rowI z8 zc9 48 1 ((vals qs) ++ [(.slice kb j kc)]), rowI z11 zc12 4 1 ((bools fs) ++ [.bool d.final[k]]), oI z3 25 [(vI d.vars), (vI ((cs.getD d.start.toNat 0 : Nat) : Int)), (.slice z8 (qs.length + 1) zc9), (.slice z11 (fs.length + 1) zc12)], rowI cb cc 3 1 (nats cs), oI z2 25 [(vI 0), (vI 0), nS, nS], oI z1 25 [(vI d.vars), (vI d.start), (.slice nb d.next.length nc), (.slice fb d.final.length fc)]] ++ itms 3 (qs ++ [⟨kb, kc, (rowK cs d.next[k]).map fun c : Nat => (c : Int)⟩])) (by show Sub _ ([rowI (aD z10) 1 4 1 [.bool d.final[k]], rowI (aD z7) 1 48 1 [(.slice kb j kc)], rowI kb kc 3 1 (nats ((rowK cs d.next[k]).take j)), rowI z8 zc9 48 1 ((vals qs) ++ [(.slice kb j kc)]), rowI z11 zc12 4 1 ((bools fs) ++ [.bool d.final[k]]), oI z3 25 [(vI d.vars), (vI ((cs.getD d.start.toNat 0 : Nat) : Int)), (.slice z8 (qs.length + 1) zc9), (.slice z11 (fs.length + 1) zc12)], rowI cb cc 3 1 (nats cs), oI z2 25 [(vI 0), (vI 0), nS, nS], oI z1 25 [(vI d.vars), (vI d.start), (.slice nb d.next.length nc), (.slice fb d.final.length fc)]] ++ itms 3 qs); rw [hR]; exact Sub.ca [rowI (aD z10) 1 4 1 [.bool d.final[k]], rowI (aD z7) 1 48 1 [(.slice kb j kc)]]) ?_
  refine TO.nl ?_
  refine ⟨k + 1, by omega, z8, z11, zc9, zc12, qs ++ [⟨kb, kc, (rowK cs d.next[k]).map fun c : Nat => (c : Int)⟩], fs ++ [d.final[k]], ?_, by omega, ?_, ?_, (.of rfl)⟩
  ·simp [Rec.val, rowK_length, hjf]
  ·rw [hqn2, ← hqs]; simp
  ·rw [hqn2, hfs]
 have hge30 : ¬ k < d.next.length := by omega
 refine T.exit ?_
 refine T.s ?_
 have hke : k = d.next.length := by omega
 rw [hke] at hqs hfs
 have hql : qs.length = (quo d cs).next.length := by rw [show qs.length = (nums qs).length by simp, hqs]; rfl
 obtain rfl : fs = (quo d cs).final := hfs
 rw [hql]
 refine T.rg (TO.q (q_la 2 underlying25 rfl inf25 rfl rfl rfl) ?_)
 have hk82 := fun (w1 : World) (hI : Inv w ([rowI ob oc 48 1 (vals qs), rowI fb9 fc9 4 1 (bools (quo d cs).final), oI z3 25 [(vI d.vars), (vI ((cs.getD d.start.toNat 0 : Nat) : Int)), (.slice ob ((quo d cs).next.length) oc), (.slice fb9 ((quo d cs).final.length) fc9)], rowI cb cc 3 1 (nats cs), oI z2 25 [(vI 0), (vI 0), nS, nS], oI z1 25 [(vI d.vars), (vI d.start), (.slice nb d.next.length nc), (.slice fb d.final.length fc)]] ++ (itms 3 qs)) w1) => (haveI := Inv.tab (P := Tryz.prog) hI; rRenumOk w1 (quo d cs) ob fb9 oc fc9 (vals qs) ⟨hI.slOf (mG 0 rfl), (show nums qs = (quo d cs).next from hqs) ▸ hI.recs (fun q hq => List.mem_append_right _ (List.mem_map_of_mem (f := Rec.itm 3) hq)), hI.slOf (mG 1 rfl)⟩ hqv hqn)
 refine TO.l rfl (l_call ent70 (CallT.op hk82) rfl ?_)
 clear hk82
 rintro v O' ⟨N, rfl, nb', nc', fb', fc', qs', rfl, rfl, hnx⟩
 refine TO.sub (O' := ([rowI nb' nc' 48 1 (vals qs'), rowI fb' fc' 4 1 (bools (renum (quo d cs)).final), rowI ob oc 48 1 (vals qs), rowI fb9 fc9 4 1 (bools (quo d cs).final), oI z3 25 [(vI d.vars), (vI ((cs.getD d.start.toNat 0 : Nat) : Int)), (.slice ob ((quo d cs).next.length) oc), (.slice fb9 ((quo d cs).final.length) fc9)], rowI cb cc 3 1 (nats cs), oI z2 25 [(vI 0), (vI 0), nS, nS], oI z1 25 [(vI d.vars), (vI d.start), (.slice nb d.next.length nc), (.slice fb d.final.length fc)]] ++ ((itms 3 qs') ++ (itms 3 qs)))) (Sub.ca []) ?_
 refine TO.q (q_extract (vs := _) rfl rfl) (TO.q (q_extract (vs := _) rfl rfl) (TO.l rfl (l_sb (v := (.agg #[(vI (renum (quo d cs)).vars), (vI (renum (quo d cs)).start), (.slice nb' ((renum (quo d cs)).next.length) nc'), (.slice fb' ((renum (quo d cs)).final.length) fc')])) (vs := [(vI (renum (quo d cs)).vars), (vI (renum (quo d cs)).start), (.slice nb' ((renum (quo d cs)).next.length) nc'), (.slice fb' ((renum (quo d cs)).final.length) fc')]) 6 inf25 rfl rfl rfl rfl rfl rfl (by simp [putL]) ?_)))
 refine TO.qa rfl (TO.nl (T.ret (Res.drop ?_)))
 refine Res.cell1b (vI 0) (i := 6) Tryz.results41 underlying25 rfl inf25 rfl rfl rfl rfl ?_
 exact ⟨[rowI nb' nc' 48 1 (vals qs'), rowI fb' fc' 4 1 (bools (renum (quo d cs)).final)] ++ itms 3 qs', Sub.ca ([rowI ob oc 48 1 (vals qs), rowI fb9 fc9 4 1 (bools (quo d cs).final), oI z3 25 [(vI d.vars), (vI ((cs.getD d.start.toNat 0 : Nat) : Int)), (.slice ob ((quo d cs).next.length) oc), (.slice fb9 ((quo d cs).final.length) fc9)], rowI cb cc 3 1 (nats cs), oI z2 25 [(vI (renum (quo d cs)).vars), (vI (renum (quo d cs)).start), (.slice nb' ((renum (quo d cs)).next.length) nc'), (.slice fb' ((renum (quo d cs)).final.length) fc')], oI z1 25 [(vI d.vars), (vI d.start), (.slice nb d.next.length nc), (.slice fb d.final.length fc)]] ++ itms 3 qs), nb', nc', fb', fc', qs', rfl, rfl, hnx⟩
end Go.Proofs.YtnpehjpookcfkaaGreatDoor


namespace Go.Proofs.YtnpehjpookcfkaaGreatDoor
open Go.Lx Go.RowKit _root_.Go.Proofs.Tryz
theorem minA (w : World) [Tab Tryz.prog w] (d : DFA) (nb fb : Option Addr) (nc fc : Nat) (vs : List Value) (h : DfaAt w d nb vs fb) (hb : d.next.length < 9223372036854775807) (hbr : ∀ r ∈ d.next, r.length < 9223372036854775807) (hbf : d.final.length < 9223372036854775807) (hn : Valid d → d.next.length < 10000) :
  PureT Tryz.prog 39 [.agg (dfaCells d nb nc fb fc).toArray] w fun v N => ∃ nb' nc' fb' fc' qs, v = .tuple #[.agg (dfaCells (minV d) nb' nc' fb' fc').toArray, .int .i64 (checkD d : Int)] ∧ N = [rowI nb' nc' 48 1 (vals qs), rowI fb' fc' 4 1 (bools (minV d).final)] ++ itms 3 qs ∧ nums qs = (minV d).next := by
 unfold minV
 by_cases he : checkD d = 0
 ·have hv := checkD_zero.1 he
  obtain ⟨q1, q2⟩ := quo_itF hv d.next.length
  rw [he, if_pos rfl]
  exact minOk w d nb fb nc fc vs h hv (hn hv) q1 (by have := hn hv; omega)
 ·rw [if_neg he]
  refine (CallT.addNil 48 1 (CallT.addNil 4 1 (minBad w d nb fb nc fc vs h hb hbr hbf he))).mono ?_
  rintro v N ⟨O2, rfl, O3, rfl, rfl, rfl⟩
  exact ⟨none, 0, none, 0, [], rfl, rfl, rfl⟩
theorem rMinA (w : World) [Tab Tryz.prog w] (d : DFA) (nb fb : Option Addr) (nc fc : Nat) (vs : List Value) (h : DfaAt w d nb vs fb) (hb : d.next.length < 9223372036854775807) (hbr : ∀ r ∈ d.next, r.length < 9223372036854775807) (hbf : d.final.length < 9223372036854775807) (hn : Valid d → d.next.length < 10000) :
  PureT Tryz.prog 41 [.agg (dfaCells d nb nc fb fc).toArray] w fun v N => ∃ nb' nc' fb' fc' qs, v = .tuple #[.agg (dfaCells (minV d) nb' nc' fb' fc').toArray, .int .i64 (checkD d : Int)] ∧ N = [rowI nb' nc' 48 1 (vals qs), rowI fb' fc' 4 1 (bools (minV d).final)] ++ itms 3 qs ∧ nums qs = (minV d).next := by
 unfold minV
 by_cases he : checkD d = 0
 ·have hv := checkD_zero.1 he
  obtain ⟨q1, q2⟩ := quo_itF hv d.next.length
  rw [he, if_pos rfl]
  exact rMinOk w d nb fb nc fc vs h hv (hn hv) q1 (by have := hn hv; omega)
 ·rw [if_neg he]
  refine (CallT.addNil 48 1 (CallT.addNil 4 1 (rMinBad w d nb fb nc fc vs h hb hbr hbf he))).mono ?_
  rintro v N ⟨O2, rfl, O3, rfl, rfl, rfl⟩
  exact ⟨none, 0, none, 0, [], rfl, rfl, rfl⟩
end Go.Proofs.YtnpehjpookcfkaaGreatDoor


namespace Go.Lx
open Go.RowKit
structure DRec where
 d : DFA
 nb : Option Addr
 fb : Option Addr
 nc : Nat
 fc : Nat
 vs : List Value
def DRec.cells (r : DRec) : List Value := dfaCells r.d r.nb r.nc r.fb r.fc
theorem any_take {α : Type} {L : List α} {f : α → Bool} {i : Nat} (hi : i < L.length) (h : (L.take i).any f = false) (h2 : f L[i] = false) : (L.take (i + 1)).any f = false := by
 rw [List.take_succ_eq_append_getElem hi, List.any_append, h]; simp [h2]
theorem any_at {α : Type} {L : List α} {f : α → Bool} {i : Nat} (hi : i < L.length) (h : f L[i] = true) : L.any f = true :=
 List.any_eq_true.2 ⟨_, List.getElem_mem hi, h⟩
end Go.Lx
namespace Go.Lx
end Go.Lx
namespace Go.Lx
theorem Tell.len {d : DFA} (hv : Valid d) {s t : Nat} (hs : s < d.next.length) (ht : t < d.next.length) {u : List Nat} (h : Tell d s t (some u)) : u.length ≤ d.next.length := by
 have h : IsLeast d s t u := h
 by_cases hd : ∀ j, j ≤ d.next.length → dif d j s t = false
 ·exact absurd h.dst (tell_none hv hs ht hd u h.wd)
 ·obtain ⟨j, hj⟩ := Classical.not_forall.1 hd
  simp only [Classical.not_imp, Bool.not_eq_false] at hj
  obtain ⟨w, h1, h2, h3⟩ := (dif_iff d j s t).1 hj.2
  have := code_len u w (hv.wd64 h.wd) (hv.wd64 h1) (h.le w h1 h3)
  omega
theorem TellA.len {d : DFA} (hN : Valid d → d.next.length < 10000) {s t : Int} {res : Option (List Nat)} (h : TellA d s t res) : (res.getD []).length < 9223372036854775807 := by
 unfold TellA at h
 by_cases h0 : eD d s t = 0
 ·rw [if_pos h0] at h
  obtain ⟨hv, h1, h2, h3, h4⟩ := eD_zero.1 h0
  cases res with
  | none => exact (by decide : 0 < 9223372036854775807)
  | some u =>
   have := Tell.len hv (by omega) (by omega) h
   have := hN hv
   show u.length < _
   omega
 ·rw [if_neg h0] at h
  subst h
  exact (by decide : 0 < 9223372036854775807)
end Go.Lx


namespace Go.Lx
def clsOf (d : DFA) (s : Nat) : Nat := (itF d d.next.length).getD s 0
theorem clsOf_iff {d : DFA} (hv : Val d) {s t : Nat} (hs : s < d.next.length) (ht : t < d.next.length) : clsOf d s = clsOf d t ↔ ∀ u, Wd d u → ¬ dst d s t u := cls_iff hv hs ht
theorem clsOf_fin {d : DFA} (hv : Val d) {s t : Nat} (hs : s < d.next.length) (ht : t < d.next.length) (h : clsOf d s = clsOf d t) : finN d s = finN d t := by
 have := (clsOf_iff hv hs ht).1 h [] (fun x hx => by cases hx)
 exact Classical.not_not.1 this
theorem clsOf_next {d : DFA} (hv : Val d) {s t x : Nat} (hs : s < d.next.length) (ht : t < d.next.length) (hx : x < letN d) (h : clsOf d s = clsOf d t) : clsOf d (toN d s x) = clsOf d (toN d t x) := by
 rw [clsOf_iff hv (toN_get hv hs hx) (toN_get hv ht hx)]
 intro u hu hd
 exact (clsOf_iff hv hs ht).1 h (x :: u) (fun y hy => by rcases List.mem_cons.1 hy with rfl | hy; exact hx; exact hu y hy) hd
theorem quoN_at {d : DFA} {cs : List Nat} (hl : cs.length = d.next.length) (hc : nrm cs = cs) : ∀ k, k ≤ d.next.length → ∀ c, c < (quoN d cs k).1.length → ∃ s, s < k ∧ cs.getD s 0 = c ∧ (quoN d cs k).1[c]? = some ((rowK cs (d.next.getD s [])).map fun c : Nat => (c : Int)) ∧ (quoN d cs k).2[c]? = some (finN d s)
 | 0, _, c, h => by simp [quoN] at h
 | k + 1, hk, c, h => by
  have ih := quoN_at hl hc k (by omega)
  have hlen := quoN_len d cs k
  by_cases hn : cs.getD k 0 < (quoN d cs k).1.length
  ·rw [quoN, if_pos hn] at h ⊢
   obtain ⟨s, h1, h2⟩ := ih c h
   exact ⟨s, by omega, h2⟩
  ·rw [quoN, if_neg hn] at h ⊢
   by_cases hcl : c < (quoN d cs k).1.length
   ·obtain ⟨s, h1, h2, h3, h4⟩ := ih c hcl
    exact ⟨s, by omega, h2, by rw [List.getElem?_append_left hcl]; exact h3, by rw [List.getElem?_append_left (by omega)]; exact h4⟩
   ·have hce : c = (quoN d cs k).1.length := by simp at h; omega
    refine ⟨k, by omega, ?_, ?_, ?_⟩
    ·have h1 := quoN_cls (l := cs) hl hc.symm k (by omega)
     have h2 := quoN_cls (l := cs) hl hc.symm (k + 1) hk
     have hkl : k < cs.length := by omega
     have hg := List.getElem?_eq_getElem hkl
     have hck : cs.getD k 0 = ix cs[k] (dd cs) := by
      have := nrm_get hg
      rw [hc] at this
      rw [List.getD_eq_getElem?_getD, this]; rfl
     have hp2 : dd (cs.take (k + 1)) <+: dd cs := by
      conv => rhs; rw [← List.take_append_drop (k + 1) cs]
      rw [dd_append]; exact foldl_prefix _ _
     have hm : cs[k] ∈ dd (cs.take (k + 1)) := mem_dd.2 (by rw [List.take_succ_eq_append_getElem hkl]; exact List.mem_append_right _ (List.mem_singleton.2 rfl))
     have hlt := ix_lt hm
     rw [hck, ix_prefix hp2 hm]
     rw [hck, ix_prefix hp2 hm] at hn
     rw [quoN, if_neg (by rw [hck, ix_prefix hp2 hm]; exact hn)] at h2
     simp at h2
     omega
    ·rw [hce, List.getElem?_append_right (Nat.le_refl _)]; simp
    ·rw [hce, hlen.1, List.getElem?_append_right (Nat.le_refl _)]; simp [finN]
def quoD (d : DFA) : DFA := quo d (itF d d.next.length)
theorem quoD_val {d : DFA} (hv : Val d) : Val (quoD d) := (quo_itV hv d.next.length).1
theorem quoD_valid {d : DFA} (hv : Valid d) : Valid (quoD d) := (quo_itF hv d.next.length).1
theorem cls_lt {d : DFA} (hv : Val d) {s : Nat} (hs : s < d.next.length) : clsOf d s < (quoD d).next.length := by
 rw [quoD, quo_len (itF_length d _) (itF_can d _)]
 exact can_lt (itF_can d _) (itF_get hs)
theorem quoD_at {d : DFA} (hv : Val d) {c : Nat} (hc : c < (quoD d).next.length) : ∃ s, s < d.next.length ∧ clsOf d s = c ∧ finN (quoD d) c = finN d s ∧ ∀ x, x < letN d → toN (quoD d) c x = clsOf d (toN d s x) := by
 obtain ⟨s, h1, h2, h3, h4⟩ := quoN_at (itF_length d d.next.length) (itF_can d _) d.next.length (Nat.le_refl _) c hc
 refine ⟨s, h1, h2, ?_, ?_⟩
 ·show (quoN d (itF d d.next.length) d.next.length).2.getD c false = _
  rw [List.getD_eq_getElem?_getD, h4]; rfl
 ·intro x hx
  have hrow : (quoD d).next.getD c [] = (rowK (itF d d.next.length) (d.next.getD s [])).map fun c : Nat => (c : Int) := by
   show (quoN d (itF d d.next.length) d.next.length).1.getD c [] = _
   rw [List.getD_eq_getElem?_getD, h3]; rfl
  have hls : (d.next.getD s []).length = letN d := by simp [h1]; exact hv.len _ (List.getElem_mem h1)
  have hx' : x < (d.next.getD s []).length := by omega
  have e1 : (d.next.getD s []).getD x 0 = (d.next.getD s [])[x] := by rw [List.getD_eq_getElem?_getD, List.getElem?_eq_getElem hx']; rfl
  rw [toN, hrow, List.getD_eq_getElem?_getD, List.getElem?_map, rowK, List.getElem?_map, List.getElem?_eq_getElem hx']
  show (((itF d d.next.length).getD (d.next.getD s [])[x].toNat 0 : Nat) : Int).toNat = clsOf d (toN d s x)
  rw [Int.toNat_natCast, clsOf, toN, e1]
theorem quoD_step {d : DFA} (hv : Val d) {s x : Nat} (hs : s < d.next.length) (hx : x < letN d) : toN (quoD d) (clsOf d s) x = clsOf d (toN d s x) := by
 obtain ⟨s', h1, h2, _, h4⟩ := quoD_at hv (cls_lt hv hs)
 rw [h4 x hx]
 exact clsOf_next hv h1 hs hx h2
theorem quoD_fin {d : DFA} (hv : Val d) {s : Nat} (hs : s < d.next.length) : finN (quoD d) (clsOf d s) = finN d s := by
 obtain ⟨s', h1, h2, h3, _⟩ := quoD_at hv (cls_lt hv hs)
 rw [h3]; exact clsOf_fin hv h1 hs h2
theorem quoD_run {d : DFA} (hv : Val d) {s : Nat} (hs : s < d.next.length) : ∀ w, Wd d w → runN (quoD d) (clsOf d s) w = clsOf d (runN d s w) := by
 refine snocInd (fun _ => rfl) ?_
 intro w x ih hw
 have hw' : Wd d w := fun y hy => hw y (by simp [hy])
 rw [runN_snoc, runN_snoc, ih hw', quoD_step hv (runN_lt hv hs w hw') (hw x (by simp))]
theorem quoD_start (d : DFA) : (quoD d).start.toNat = clsOf d d.start.toNat := by
 show (((itF d d.next.length).getD d.start.toNat 0 : Nat) : Int).toNat = _
 rw [Int.toNat_natCast]; rfl
theorem order_start {d : DFA} (hv : Val d) : ∃ r, order d = d.start.toNat :: r := by
 have hp := bfsN_prefix d 0 d.next.length (Nat.zero_le _)
 obtain ⟨r, hr⟩ := hp
 exact ⟨r, hr.symm⟩
theorem renum_val {d : DFA} (hv : Val d) : Val (renum d) := by
 obtain ⟨r, hr⟩ := order_start hv
 have hl := order_len hv
 have hpos : 0 < (order d).length := by rw [hr]; simp
 refine ⟨hv.v0, hv.v6, ?_, ?_, Int.le_refl _, ?_, ?_, ?_⟩
 ·simpa [renum] using hpos
 ·simp [renum]
 ·show (0 : Int) < ((renum d).next.length : Nat)
  simp only [renum, List.length_map]; omega
 ·intro r hr
  obtain ⟨o, ho, rfl⟩ := List.mem_map.1 hr
  rw [List.length_map, sucs_length]; rfl
 ·intro r hr x hx
  obtain ⟨o, ho, rfl⟩ := List.mem_map.1 hr
  obtain ⟨t, ht, rfl⟩ := List.mem_map.1 hx
  refine ⟨Int.natCast_nonneg _, ?_⟩
  have := ix_lt (order_closed hv o ho t ht)
  simp only [renum, List.length_map]; omega
theorem renum_step {d : DFA} (hv : Val d) {s x : Nat} (hs : s ∈ order d) (hx : x < letN d) : toN (renum d) (ix s (order d)) x = ix (toN d s x) (order d) := by
 have hg := ix_get hs
 have hrow : (renum d).next.getD (ix s (order d)) [] = (sucs d s).map fun t => ((ix t (order d) : Nat) : Int) := by
  show ((order d).map fun o => (sucs d o).map fun t => ((ix t (order d) : Nat) : Int)).getD _ [] = _
  rw [List.getD_eq_getElem?_getD, List.getElem?_map, hg]; rfl
 rw [toN, hrow, List.getD_eq_getElem?_getD, List.getElem?_map, sucs_get hx]
 show ((ix (toN d s x) (order d) : Nat) : Int).toNat = _
 rw [Int.toNat_natCast]
theorem renum_fin {d : DFA} {s : Nat} (hs : s ∈ order d) : finN (renum d) (ix s (order d)) = finN d s := by
 show ((order d).map fun o => d.final.getD o false).getD _ false = _
 rw [List.getD_eq_getElem?_getD, List.getElem?_map, ix_get hs]; rfl
theorem order_run {d : DFA} (hv : Val d) {s : Nat} (hs : s ∈ order d) : ∀ w, Wd d w → runN d s w ∈ order d := by
 refine snocInd (fun _ => hs) ?_
 intro w x ih hw
 rw [runN_snoc]
 exact order_closed hv _ (ih fun y hy => hw y (by simp [hy])) _ (List.mem_of_getElem? (sucs_get (hw x (by simp))))
theorem renum_run {d : DFA} (hv : Val d) {s : Nat} (hs : s ∈ order d) : ∀ w, Wd d w → runN (renum d) (ix s (order d)) w = ix (runN d s w) (order d) := by
 refine snocInd (fun _ => rfl) ?_
 intro w x ih hw
 have hw' : Wd d w := fun y hy => hw y (by simp [hy])
 rw [runN_snoc, runN_snoc, ih hw', renum_step hv (order_run hv hs w hw') (hw x (by simp))]
theorem start_mem {d : DFA} (hv : Val d) : d.start.toNat ∈ order d := by
 obtain ⟨r, hr⟩ := order_start hv
 rw [hr]; simp
theorem start_ix {d : DFA} (hv : Val d) : ix d.start.toNat (order d) = 0 := by
 obtain ⟨r, hr⟩ := order_start hv
 rw [hr]; simp [ix]
def acc (d : DFA) (w : List Nat) : Bool := finN d (runN d d.start.toNat w)
theorem start_lt {d : DFA} (hv : Val d) : d.start.toNat < d.next.length := by have := hv.s0; have := hv.s1; omega
theorem renum_acc {d : DFA} (hv : Val d) {w : List Nat} (hw : Wd d w) : acc (renum d) w = acc d w := by
 have h := renum_run hv (start_mem hv) w hw
 rw [start_ix hv] at h
 show finN (renum d) (runN (renum d) 0 w) = _
 rw [h, renum_fin (order_run hv (start_mem hv) w hw)]; rfl
theorem quoD_acc {d : DFA} (hv : Val d) {w : List Nat} (hw : Wd d w) : acc (quoD d) w = acc d w := by
 unfold acc
 rw [quoD_start, quoD_run hv (start_lt hv) w hw, quoD_fin hv (runN_lt hv (start_lt hv) w hw)]
theorem minD_val {d : DFA} (hv : Val d) : Val (minD d) := renum_val (quoD_val hv)
theorem renum_fit {d : DFA} (hv : Val d) (h : (order d).length ≤ 4096) : Valid (renum d) := ⟨renum_val hv, by simpa [renum] using h⟩
theorem renum_valid {d : DFA} (hv : Valid d) : Valid (renum d) := renum_fit hv (Nat.le_trans (order_len hv.toVal) hv.n4)
theorem minD_valid {d : DFA} (hv : Valid d) : Valid (minD d) := renum_valid (quoD_valid hv)
theorem minD_acc {d : DFA} (hv : Val d) {w : List Nat} (hw : Wd d w) : acc (minD d) w = acc d w :=
 (renum_acc (quoD_val hv) hw).trans (quoD_acc hv hw)
inductive All2 (ρ : Nat → Nat → Prop) : List Nat → List Nat → Prop
 | nil : All2 ρ [] []
 | cons {a b l m} : ρ a b → All2 ρ l m → All2 ρ (a :: l) (b :: m)
theorem All2.append {ρ : Nat → Nat → Prop} {l m l' m' : List Nat} (h : All2 ρ l m) (h' : All2 ρ l' m') : All2 ρ (l ++ l') (m ++ m') := by
 induction h with
 | nil => exact h'
 | cons h1 _ ih => exact .cons h1 ih
theorem All2.len {ρ : Nat → Nat → Prop} {l m : List Nat} (h : All2 ρ l m) : l.length = m.length := by
 induction h with
 | nil => rfl
 | cons _ _ ih => simp [ih]
theorem All2.get {ρ : Nat → Nat → Prop} {l m : List Nat} (h : All2 ρ l m) : ∀ {i a b : Nat}, l[i]? = some a → m[i]? = some b → ρ a b := by
 induction h with
 | nil => intro i a b h; simp at h
 | cons h1 _ ih =>
  intro i a b ha hb
  cases i with
  | zero => simp at ha hb; subst ha; subst hb; exact h1
  | succ i => exact ih (by simpa using ha) (by simpa using hb)
section
variable {ρ : Nat → Nat → Prop}
def OneOne (ρ : Nat → Nat → Prop) : Prop := ∀ a b a' b', ρ a b → ρ a' b' → (a = a' ↔ b = b')
theorem All2.mem (ho : OneOne ρ) {l m : List Nat} (h : All2 ρ l m) {a b : Nat} (hab : ρ a b) : a ∈ l ↔ b ∈ m := by
 induction h with
 | nil => simp
 | cons h1 _ ih => rw [List.mem_cons, List.mem_cons, ih, ho _ _ _ _ hab h1]
theorem All2.ix (ho : OneOne ρ) {l m : List Nat} (h : All2 ρ l m) {a b : Nat} (hab : ρ a b) : Lx.ix a l = Lx.ix b m := by
 induction h with
 | nil => rfl
 | @cons x y l m h1 _ ih =>
  simp only [Lx.ix, ih]
  by_cases e : a = x
  ·rw [if_pos e, if_pos ((ho _ _ _ _ hab h1).1 e)]
  ·rw [if_neg e, if_neg (fun h => e ((ho _ _ _ _ hab h1).2 h))]
theorem All2.add (ho : OneOne ρ) {l m : List Nat} (h : All2 ρ l m) {a b : Nat} (hab : ρ a b) : All2 ρ (Lx.add l a) (Lx.add m b) := by
 unfold Lx.add
 by_cases e : a ∈ l
 ·rw [if_pos e, if_pos ((h.mem ho hab).1 e)]; exact h
 ·rw [if_neg e, if_neg (fun h9 => e ((h.mem ho hab).2 h9))]; exact h.append (.cons hab .nil)
theorem All2.foldl (ho : OneOne ρ) {xs ys : List Nat} (hx : All2 ρ xs ys) : ∀ {l m : List Nat}, All2 ρ l m → All2 ρ (xs.foldl Lx.add l) (ys.foldl Lx.add m) := by
 induction hx with
 | nil => intro l m h; exact h
 | cons h1 _ ih => intro l m h; exact ih (h.add ho h1)
theorem All2.map {f g : Nat → Nat} : ∀ (l : List Nat), (∀ x ∈ l, ρ (f x) (g x)) → All2 ρ (l.map f) (l.map g)
 | [], _ => .nil
 | x :: l, h => .cons (h x (by simp)) (All2.map l fun y hy => h y (by simp [hy]))
structure Bisim (ρ : Nat → Nat → Prop) (p q : DFA) : Prop where
 vars : p.vars = q.vars
 one : OneOne ρ
 start : ρ p.start.toNat q.start.toNat
 step : ∀ a b x, ρ a b → x < letN p → ρ (toN p a x) (toN q b x)
 fin : ∀ a b, ρ a b → finN p a = finN q b
theorem Bisim.sucs {p q : DFA} (h : Bisim ρ p q) {a b : Nat} (hab : ρ a b) : All2 ρ (sucs p a) (sucs q b) := by
 unfold Lx.sucs
 rw [← h.vars]
 exact All2.map _ fun x hx => h.step a b x hab (List.mem_range.1 hx)
theorem Bisim.bfs {p q : DFA} (h : Bisim ρ p q) : ∀ i, All2 ρ (bfsN p i) (bfsN q i)
 | 0 => .cons h.start .nil
 | i + 1 => by
  have ih := h.bfs i
  have hl := ih.len
  rw [bfsN, bfsN, ← hl]
  by_cases hi : i < (bfsN p i).length
  ·rw [if_pos hi, if_pos hi]
   have hi2 : i < (bfsN q i).length := by omega
   have g1 := List.getElem?_eq_getElem hi
   have g2 := List.getElem?_eq_getElem hi2
   have e1 : (bfsN p i).getD i 0 = (bfsN p i)[i] := by rw [List.getD_eq_getElem?_getD, g1]; rfl
   have e2 : (bfsN q i).getD i 0 = (bfsN q i)[i] := by rw [List.getD_eq_getElem?_getD, g2]; rfl
   rw [e1, e2]
   exact (h.sucs (ih.get g1 g2)).foldl h.one ih
  ·rw [if_neg hi, if_neg hi]; exact ih
theorem Bisim.order {p q : DFA} (h : Bisim ρ p q) (hp : Val p) (hq : Val q) : All2 ρ (order p) (order q) := by
 obtain ⟨N, h1, h2, _⟩ := order_stop hp
 have e1 := order_eq h2 h1
 have hb := h.bfs N
 have h2q : (bfsN q N).length = N := by rw [← hb.len]; exact h2
 have hNq : N ≤ q.next.length := by rw [← h2q]; exact bfsN_len hq N
 rw [e1, order_eq h2q hNq]
 exact hb
theorem Bisim.renum {p q : DFA} (h : Bisim ρ p q) (hp : Val p) (hq : Val q) : renum p = renum q := by
 have ho := h.order hp hq
 have rows : ∀ {l m : List Nat}, All2 ρ l m → (l.map fun o => (Lx.sucs p o).map fun t => ((Lx.ix t (Lx.order p) : Nat) : Int)) = m.map fun o => (Lx.sucs q o).map fun t => ((Lx.ix t (Lx.order q) : Nat) : Int) := by
  intro l m hlm
  induction hlm with
  | nil => rfl
  | cons h1 _ ih =>
   rw [List.map_cons, List.map_cons, ih]
   congr 1
   have hs := h.sucs h1
   have each : ∀ {x y : List Nat}, All2 ρ x y → (x.map fun t => ((Lx.ix t (Lx.order p) : Nat) : Int)) = y.map fun t => ((Lx.ix t (Lx.order q) : Nat) : Int) := by
    intro x y hxy
    induction hxy with
    | nil => rfl
    | cons h2 _ ih2 => rw [List.map_cons, List.map_cons, ih2, ho.ix h.one h2]
   exact each hs
 have fins : ∀ {l m : List Nat}, All2 ρ l m → (l.map fun o => p.final.getD o false) = m.map fun o => q.final.getD o false := by
  intro l m hlm
  induction hlm with
  | nil => rfl
  | cons h1 _ ih => rw [List.map_cons, List.map_cons, ih]; congr 1; exact h.fin _ _ h1
 unfold Lx.renum
 rw [rows ho, fins ho, h.vars]
end
theorem minD_unique {a b : DFA} (ha : Val a) (hb : Val b) (hvars : a.vars = b.vars) (h : ∀ w, Wd a w → acc a w = acc b w) : minD a = minD b := by
 have hwd : ∀ w, Wd a w ↔ Wd b w := fun w => by unfold Wd letN; rw [hvars]
 refine Bisim.renum (ρ := fun c1 c2 => ∃ s t, s < a.next.length ∧ t < b.next.length ∧ clsOf a s = c1 ∧ clsOf b t = c2 ∧ ∀ w, Wd a w → finN a (runN a s w) = finN b (runN b t w)) ⟨hvars, ?_, ?_, ?_, ?_⟩ (quoD_val ha) (quoD_val hb)
 ·rintro c1 c2 c1' c2' ⟨s, t, hs, ht, rfl, rfl, hw⟩ ⟨s', t', hs', ht', rfl, rfl, hw'⟩
  rw [clsOf_iff ha hs hs', clsOf_iff hb ht ht']
  constructor
  ·intro h1 u hu hd
   have hu' := (hwd u).2 hu
   refine h1 u hu' ?_
   unfold dst at *
   rw [hw u hu', hw' u hu']; exact hd
  ·intro h1 u hu hd
   refine h1 u ((hwd u).1 hu) ?_
   unfold dst at *
   rw [← hw u hu, ← hw' u hu]; exact hd
 ·exact ⟨a.start.toNat, b.start.toNat, start_lt ha, start_lt hb, (quoD_start a).symm, (quoD_start b).symm, h⟩
 ·rintro c1 c2 x ⟨s, t, hs, ht, rfl, rfl, hw⟩ hx
  have hxa : x < letN a := hx
  have hxb : x < letN b := by unfold letN at *; rw [← hvars]; exact hxa
  refine ⟨toN a s x, toN b t x, toN_get ha hs hxa, toN_get hb ht hxb, (quoD_step ha hs hxa).symm, (quoD_step hb ht hxb).symm, fun w hww => ?_⟩
  exact hw (x :: w) (fun y hy => by rcases List.mem_cons.1 hy with rfl | hy; exact hxa; exact hww y hy)
 ·rintro c1 c2 ⟨s, t, hs, ht, rfl, rfl, hw⟩
  show finN (quoD a) _ = finN (quoD b) _
  rw [quoD_fin ha hs, quoD_fin hb ht]
  exact hw [] (fun x hx => by cases hx)
end Go.Lx


namespace Go.Lx
end Go.Lx


namespace Go.Lx
def runE (d : DFA) (w : List Nat) : Nat := if checkD d ≠ 0 then checkD d else if 64 < w.length then 4 else if w.any (fun x => decide (2 ^ d.vars.toNat ≤ x)) = true then 1 else 0
def runV (d : DFA) (w : List Nat) : Nat := if runE d w = 0 then runN d d.start.toNat w else 0
def accV (d : DFA) (w : List Nat) : Bool := if runE d w = 0 then finN d (runN d d.start.toNat w) else false
theorem runE_zero {d : DFA} {w : List Nat} : runE d w = 0 ↔ Valid d ∧ w.length ≤ 64 ∧ Wd d w := by
 unfold runE
 by_cases h : checkD d = 0
 ·rw [if_neg (by simp [h])]
  by_cases h2 : 64 < w.length
  ·rw [if_pos h2]; exact ⟨fun h => absurd h (by decide), fun h => by omega⟩
  ·rw [if_neg h2]
   by_cases h3 : w.any (fun x => decide (2 ^ d.vars.toNat ≤ x)) = true
   ·rw [if_pos h3]
    refine ⟨fun h => absurd h (by decide), fun h => ?_⟩
    obtain ⟨x, hx, hx2⟩ := List.any_eq_true.1 h3
    have := h.2.2 x hx
    simp at hx2
    unfold letN at this
    omega
   ·rw [if_neg h3]
    refine ⟨fun _ => ⟨checkD_zero.1 h, by omega, fun x hx => ?_⟩, fun _ => rfl⟩
    rcases Nat.lt_or_ge x (letN d) with h4 | h4
    ·exact h4
    ·exact absurd (List.any_eq_true.2 ⟨x, hx, decide_eq_true h4⟩) h3
 ·rw [if_pos h]; exact ⟨fun e => absurd e h, fun hh => absurd (checkD_zero.2 hh.1) h⟩
theorem runN_take {d : DFA} {s : Nat} {w : List Nat} {k : Nat} (hk : k < w.length) : runN d s (w.take (k + 1)) = toN d (runN d s (w.take k)) w[k] := by
 rw [List.take_succ_eq_append_getElem hk, runN_snoc]
end Go.Lx


namespace Go.Lx
theorem bfsN_reach {d : DFA} (hv : Val d) : ∀ i, ∀ o ∈ bfsN d i, ∃ w, Wd d w ∧ runN d d.start.toNat w = o
 | 0, o, h => by
  simp only [bfsN, List.mem_singleton] at h
  subst h
  exact ⟨[], fun x hx => (List.not_mem_nil hx).elim, rfl⟩
 | i + 1, o, h => by
  rw [bfsN] at h
  split at h
  ·rename_i hi
   rcases (mem_foldl_add _ _).1 h with h | h
   ·exact bfsN_reach hv i o h
   ·obtain ⟨x, hx, rfl⟩ := List.mem_map.1 h
    have hm : (bfsN d i).getD i 0 ∈ bfsN d i := by
     rw [List.getD_eq_getElem?_getD, List.getElem?_eq_getElem hi]; exact List.getElem_mem hi
    obtain ⟨w, hw, he⟩ := bfsN_reach hv i _ hm
    refine ⟨w ++ [x], fun y hy => ?_, by rw [runN_snoc, he]⟩
    rcases List.mem_append.1 hy with hy | hy
    ·exact hw y hy
    ·rw [List.mem_singleton.1 hy]; exact List.mem_range.1 hx
  ·exact bfsN_reach hv i o h
theorem map_nodup {f : Nat → Nat} : ∀ {l : List Nat}, l.Nodup → (∀ a ∈ l, ∀ b ∈ l, f a = f b → a = b) → (l.map f).Nodup
 | [], _, _ => List.nodup_nil
 | a :: l, hn, hi => by
  obtain ⟨h1, h2⟩ := List.nodup_cons.1 hn
  rw [List.map_cons, List.nodup_cons]
  refine ⟨fun hm => ?_, map_nodup h2 fun x hx y hy => hi x (by simp [hx]) y (by simp [hy])⟩
  obtain ⟨y, hy, e⟩ := List.mem_map.1 hm
  have := hi a (by simp) y (by simp [hy]) e.symm
  exact h1 (this ▸ hy)
theorem minD_renum {d : DFA} (hv : Val d) : minD (renum d) = minD d := minD_unique (renum_val hv) hv rfl fun w hw => renum_acc hv hw
theorem minD_min {d : DFA} (hv : Val d) : minD (minD d) = minD d := minD_unique (minD_val hv) hv rfl fun w hw => minD_acc hv hw
theorem minV_valid {d : DFA} (hv : Valid d) : minV d = minD d := by unfold minV; rw [if_pos (checkD_zero.2 hv)]
end Go.Lx


namespace Go.Lx
open Go.RowKit
def prRow (a b : DFA) (s t : Nat) : List Int := (List.range (letN a)).map fun x => ((toN a s x * b.next.length + toN b t x : Nat) : Int)
def prNext (a b : DFA) : List (List Int) := (List.range (a.next.length * b.next.length)).map fun c => prRow a b (c / b.next.length) (c % b.next.length)
def prFin (f : Bool → Bool → Bool) (a b : DFA) : List Bool := (List.range (a.next.length * b.next.length)).map fun c => f (finN a (c / b.next.length)) (finN b (c % b.next.length))
def prodD (f : Bool → Bool → Bool) (a b : DFA) : DFA := ⟨a.vars, ((a.start.toNat * b.next.length + b.start.toNat : Nat) : Int), prNext a b, prFin f a b⟩
theorem pr_div {n s t : Nat} (ht : t < n) : (s * n + t) / n = s ∧ (s * n + t) % n = t := by
 rw [Nat.mul_comm]
 exact ⟨by rw [Nat.mul_add_div (by omega), Nat.div_eq_of_lt ht, Nat.add_zero], by rw [Nat.mul_add_mod, Nat.mod_eq_of_lt ht]⟩
theorem pr_lt {n k s t : Nat} (hs : s < k) (ht : t < n) : s * n + t < k * n := by
 have := Nat.mul_le_mul_right n (show s + 1 ≤ k by omega); rw [Nat.succ_mul] at this; omega
theorem pr_split {n k c : Nat} (h : c < k * n) : c / n < k ∧ c % n < n := by
 have hn : 0 < n := by
  rcases Nat.eq_zero_or_pos n with h0 | h0
  ·rw [h0, Nat.mul_zero] at h; exact absurd h (Nat.not_lt_zero _)
  ·exact h0
 exact ⟨(Nat.div_lt_iff_lt_mul hn).2 h, Nat.mod_lt _ hn⟩
theorem prod_len (f : Bool → Bool → Bool) (a b : DFA) : (prodD f a b).next.length = a.next.length * b.next.length := by
 show (prNext a b).length = _; unfold prNext; simp
theorem prod_val {f : Bool → Bool → Bool} {a b : DFA} (ha : Val a) (hb : Val b) (hv : a.vars = b.vars) : Val (prodD f a b) := by
 have a0 := start_lt ha; have b0 := start_lt hb
 have hlt := pr_lt a0 b0
 refine { v0 := ha.v0, v6 := ha.v6, n0 := ?_, fin := ?_, s0 := ?_, s1 := ?_, len := ?_, ok := ?_ }
 ·rw [prod_len]; omega
 ·rw [prod_len]; show (prFin f a b).length = _; unfold prFin; simp
 ·show (0 : Int) ≤ ((_ : Nat) : Int); omega
 ·rw [prod_len]; show ((_ : Nat) : Int) < ((_ : Nat) : Int); omega
 ·intro r hr
  obtain ⟨c, _, rfl⟩ := List.mem_map.1 (show r ∈ prNext a b from hr)
  unfold prRow; simp; rfl
 ·intro r hr x hx
  obtain ⟨c, hc, rfl⟩ := List.mem_map.1 (show r ∈ prNext a b from hr)
  obtain ⟨y, hy, rfl⟩ := List.mem_map.1 (show x ∈ prRow a b _ _ from hx)
  rw [List.mem_range] at hc hy
  obtain ⟨h1, h2⟩ := pr_split hc
  have h3 := (ha.toN_lt h1 hy).1
  have h4 := (hb.toN_lt h2 (by rw [← hv]; exact hy)).1
  have := pr_lt h3 h4
  rw [prod_len]; omega
theorem prod_valid {f : Bool → Bool → Bool} {a b : DFA} (ha : Val a) (hb : Val b) (hv : a.vars = b.vars) (hn : a.next.length * b.next.length ≤ 4096) : Valid (prodD f a b) := ⟨prod_val ha hb hv, by rw [prod_len]; exact hn⟩
theorem prod_fin {f : Bool → Bool → Bool} {a b : DFA} {s t : Nat} (hs : s < a.next.length) (ht : t < b.next.length) : finN (prodD f a b) (s * b.next.length + t) = f (finN a s) (finN b t) := by
 have hd := pr_div (s := s) ht
 have hc := pr_lt hs ht
 show (prFin f a b).getD _ false = _
 unfold prFin
 rw [List.getD_eq_getElem?_getD, List.getElem?_map, List.getElem?_range hc]
 simp only [Option.map_some, Option.getD_some, hd.1, hd.2]
theorem prod_step {f : Bool → Bool → Bool} {a b : DFA} {s t x : Nat} (hs : s < a.next.length) (ht : t < b.next.length) (hx : x < letN a) : toN (prodD f a b) (s * b.next.length + t) x = toN a s x * b.next.length + toN b t x := by
 have hd := pr_div (s := s) ht
 have hc := pr_lt hs ht
 show (((prNext a b).getD _ []).getD x 0).toNat = _
 unfold prNext
 rw [List.getD_eq_getElem?_getD (l := List.map _ _), List.getElem?_map, List.getElem?_range hc]
 simp only [Option.map_some, Option.getD_some, hd.1, hd.2]
 unfold prRow
 rw [List.getD_eq_getElem?_getD, List.getElem?_map, List.getElem?_range hx]
 exact Int.toNat_natCast _
theorem prod_run {f : Bool → Bool → Bool} {a b : DFA} (ha : Val a) (hb : Val b) (hv : a.vars = b.vars) {s t : Nat} (hs : s < a.next.length) (ht : t < b.next.length) : ∀ w, Wd a w → runN (prodD f a b) (s * b.next.length + t) w = runN a s w * b.next.length + runN b t w := by
 refine snocInd (fun _ => rfl) ?_
 intro w x ih hw
 have hw1 : Wd a w := fun y hy => hw y (by simp [hy])
 have hw2 : Wd b w := fun y hy => by have := hw1 y hy; unfold letN at this ⊢; rw [← hv]; exact this
 rw [runN_snoc, runN_snoc, runN_snoc, ih hw1, prod_step (runN_lt ha hs w hw1) (runN_lt hb ht w hw2) (hw x (by simp))]
theorem prod_acc {f : Bool → Bool → Bool} {a b : DFA} (ha : Val a) (hb : Val b) (hv : a.vars = b.vars) {w : List Nat} (hw : Wd a w) : acc (prodD f a b) w = f (acc a w) (acc b w) := by
 have a0 := start_lt ha; have b0 := start_lt hb
 have hw2 : Wd b w := fun y hy => by have := hw y hy; unfold letN at this ⊢; rw [← hv]; exact this
 unfold acc
 rw [show (prodD f a b).start.toNat = a.start.toNat * b.next.length + b.start.toNat from Int.toNat_natCast _, prod_run ha hb hv a0 b0 w hw, prod_fin (runN_lt ha a0 w hw) (runN_lt hb b0 w hw2)]
def opD (f : Bool → Bool → Bool) (a b : DFA) : DFA := minD (prodD f a b)
theorem opD_valid {f : Bool → Bool → Bool} {a b : DFA} (ha : Val a) (hb : Val b) (hv : a.vars = b.vars) (hn : a.next.length * b.next.length ≤ 4096) : Valid (opD f a b) := minD_valid (prod_valid ha hb hv hn)
theorem opD_acc {f : Bool → Bool → Bool} {a b : DFA} (ha : Val a) (hb : Val b) (hv : a.vars = b.vars) (hn : a.next.length * b.next.length ≤ 4096) {w : List Nat} (hw : Wd a w) : acc (opD f a b) w = f (acc a w) (acc b w) := by
 unfold opD; rw [minD_acc (prod_val ha hb hv) hw, prod_acc ha hb hv hw]
theorem opD_min {f : Bool → Bool → Bool} {a b : DFA} (ha : Val a) (hb : Val b) (hv : a.vars = b.vars) (hn : a.next.length * b.next.length ≤ 4096) : minD (opD f a b) = opD f a b := minD_min (prod_val ha hb hv)
theorem opD_accW {f : Bool → Bool → Bool} {a b : DFA} (ha : Val a) (hb : Val b) (hv : a.vars = b.vars) {w : List Nat} (hw : Wd a w) : acc (opD f a b) w = f (acc a w) (acc b w) := by
 unfold opD; rw [minD_acc (prod_val ha hb hv) hw, prod_acc ha hb hv hw]
theorem opD_minW {f : Bool → Bool → Bool} {a b : DFA} (ha : Val a) (hb : Val b) (hv : a.vars = b.vars) : minD (opD f a b) = opD f a b := minD_min (prod_val ha hb hv)
theorem minD_len {d : DFA} (hv : Val d) : (minD d).next.length ≤ d.next.length := by
 have h1 : (minD d).next.length ≤ (quoD d).next.length := by
  show (renum (quoD d)).next.length ≤ _
  unfold renum
  rw [List.length_map]; exact order_len (quoD_val hv)
 have h2 := (quoN_len d (itF d d.next.length) d.next.length).2
 exact Nat.le_trans h1 h2
theorem opD_len {f : Bool → Bool → Bool} {a b : DFA} (ha : Val a) (hb : Val b) (hv : a.vars = b.vars) (hn : a.next.length * b.next.length ≤ 4096) : (opD f a b).next.length ≤ a.next.length * b.next.length := by
 rw [← prod_len f a b]; exact minD_len (prod_val ha hb hv)
theorem min_ext {a b : DFA} (ha : Val a) (hb : Val b) (hma : minD a = a) (hmb : minD b = b) (hv : a.vars = b.vars) (h : ∀ w, Wd a w → acc a w = acc b w) : a = b := by
 rw [← hma, ← hmb]; exact minD_unique ha hb hv h
def flipD (d : DFA) : DFA := ⟨d.vars, d.start, d.next, d.final.map (!·)⟩
theorem flip_val {d : DFA} (hv : Val d) : Val (flipD d) :=
 { v0 := hv.v0, v6 := hv.v6, n0 := hv.n0, fin := by show (d.final.map _).length = _; rw [List.length_map]; exact hv.fin, s0 := hv.s0, s1 := hv.s1, len := hv.len, ok := hv.ok }
theorem flip_valid {d : DFA} (hv : Valid d) : Valid (flipD d) := ⟨flip_val hv, hv.n4⟩
theorem flip_fin {d : DFA} (hv : Val d) {s : Nat} (hs : s < d.next.length) : finN (flipD d) s = !finN d s := by
 have hl : s < d.final.length := by rw [hv.fin]; exact hs
 show (d.final.map _).getD s false = _
 unfold finN
 rw [List.getD_eq_getElem?_getD, List.getD_eq_getElem?_getD, List.getElem?_map, List.getElem?_eq_getElem hl]
 rfl
theorem flip_acc {d : DFA} (hv : Val d) {w : List Nat} (hw : Wd d w) : acc (flipD d) w = !acc d w := by
 unfold acc
 have hr : ∀ u s, runN (flipD d) s u = runN d s u := fun u s => rfl
 rw [hr]
 exact flip_fin hv (runN_lt hv (start_lt hv) w hw)
end Go.Lx


namespace Go.Lx
theorem dif_short {d : DFA} (hv : Val d) {s t : Nat} (hs : s < d.next.length) (ht : t < d.next.length) (m : Nat) (h : dif d m s t = true) : dif d (d.next.length - 1) s t = true := by
 have hn := hv.n0
 have key : itF d (d.next.length - 1) = itF d d.next.length := by
  rcases itF_grow hv (d.next.length - 1) with ⟨j, hj, h⟩ | h
  ·have hst : refineF d (itF d j) = itF d j := by rw [← itF]; exact h
   rw [itF_stable hst _ (show j ≤ d.next.length - 1 by omega), itF_stable hst _ (show j ≤ d.next.length by omega)]
  ·obtain ⟨h1, h2⟩ := clsN_step hv (d.next.length - 1)
   have h3 := clsN_le d (d.next.length - 1 + 1)
   have h4 := h2 (by omega)
   rw [show d.next.length - 1 + 1 = d.next.length by omega] at h4
   exact h4.symm
 rcases Bool.eq_false_or_eq_true (dif d (d.next.length - 1) s t) with hh | hh
 ·exact hh
 ·rw [← itF_iff hv _ s t hs ht, key] at hh
  have h5 : dif d (max m d.next.length) s t = true := dif_mono (by omega) h
  have h6 := (itF_iff hv (max m d.next.length) s t hs ht).1 (by rw [itF_stab hv _ (by omega)]; exact hh)
  rw [h6] at h5; cases h5
theorem Tell.lt {d : DFA} (hv : Val d) {s t : Nat} (hs : s < d.next.length) (ht : t < d.next.length) {u : List Nat} (h : Tell d s t (some u)) : u.length < d.next.length := by
 have h : IsLeast d s t u := h
 have hd := dif_short hv hs ht u.length ((dif_iff d _ s t).2 ⟨u, h.wd, Nat.le_refl _, h.dst⟩)
 obtain ⟨w, h1, h2, h3⟩ := (dif_iff d _ s t).1 hd
 have := code_len u w (hv.wd64 h.wd) (hv.wd64 h1) (h.le w h1 h3)
 have := hv.n0
 omega
theorem minD_apart {d : DFA} (hv : Val d) {p q : Nat} (hp : p < (minD d).next.length) (hq : q < (minD d).next.length) {res : Option (List Nat)} (h : Tell (minD d) p q res) : res.isSome = true ↔ p ≠ q := by
 have hQ := quoD_val hv
 have hpo : p < (order (quoD d)).length := by simpa [minD, renum, quoD] using hp
 have hqo : q < (order (quoD d)).length := by simpa [minD, renum, quoD] using hq
 constructor
 ·intro hs e
  subst e
  cases res with
  | none => cases hs
  | some u => exact (show IsLeast (minD d) p p u from h).dst rfl
 ·intro hne
  cases res with
  | some u => rfl
  | none =>
   exfalso
   have hnd : (order (quoD d)).Nodup := (bfsN_ok hQ _).1
   have hix : ∀ i (hi : i < (order (quoD d)).length), ix (order (quoD d))[i] (order (quoD d)) = i := fun i hi => by
    have g := ix_get (List.getElem_mem hi)
    exact (List.getElem_inj (h₀ := ix_lt (List.getElem_mem hi)) (h₁ := hi) hnd).1 (Option.some.inj (by rw [← List.getElem?_eq_getElem, g]))
   obtain ⟨a, ha, hac, _, _⟩ := quoD_at hv (order_lt hQ _ (List.getElem_mem hpo))
   obtain ⟨b, hb, hbc, _, _⟩ := quoD_at hv (order_lt hQ _ (List.getElem_mem hqo))
   have hab : clsOf d a = clsOf d b := by
    rw [clsOf_iff hv ha hb]
    intro u hu hd
    have hn := (show ∀ u, Wd (minD d) u → ¬ dst (minD d) p q u from h) u hu
    apply hn
    have r1 := renum_run hQ (List.getElem_mem hpo) u hu
    have r2 := renum_run hQ (List.getElem_mem hqo) u hu
    rw [hix p hpo] at r1
    rw [hix q hqo] at r2
    unfold dst at *
    show finN (renum (quoD d)) (runN (renum (quoD d)) p u) ≠ finN (renum (quoD d)) (runN (renum (quoD d)) q u)
    rw [r1, r2, renum_fin (order_run hQ (List.getElem_mem hpo) u hu), renum_fin (order_run hQ (List.getElem_mem hqo) u hu), ← hac, ← hbc, quoD_run hv ha u hu, quoD_run hv hb u hu, quoD_fin hv (runN_lt hv ha u hu), quoD_fin hv (runN_lt hv hb u hu)]
    exact hd
   rw [hac, hbc] at hab
   exact hne ((List.getElem_inj (h₀ := hpo) (h₁ := hqo) hnd).1 hab)
end Go.Lx


namespace Go.Lx
def both (a b : DFA) : DFA := ⟨a.vars, a.start, a.next ++ b.next.map fun r => r.map fun x => (a.next.length : Int) + x, a.final ++ b.final⟩
theorem both_len (a b : DFA) : (both a b).next.length = a.next.length + b.next.length := by simp [both]
theorem both_valid {a b : DFA} (ha : Valid a) (hb : Valid b) (hv : a.vars = b.vars) (hn : a.next.length + b.next.length ≤ 4096) : Valid (both a b) := by
 refine ⟨⟨ha.v0, ha.v6, ?_, ?_, ha.s0, ?_, ?_, ?_⟩, by rw [both_len]; exact hn⟩
 ·rw [both_len]; have := ha.n0; omega
 ·rw [both_len]; show (a.final ++ b.final).length = _; rw [List.length_append, ha.fin, hb.fin]
 ·rw [both_len]; show a.start < _; have := ha.s1; omega
 ·intro r hr
  rcases List.mem_append.1 hr with hr | hr
  ·exact ha.len r hr
  ·obtain ⟨r', hr', rfl⟩ := List.mem_map.1 hr
   rw [List.length_map, hb.len r' hr']
   show 2 ^ b.vars.toNat = 2 ^ a.vars.toNat
   rw [hv]
 ·intro r hr x hx
  rw [both_len]
  rcases List.mem_append.1 hr with hr | hr
  ·have := ha.ok r hr x hx; omega
  ·obtain ⟨r', hr', rfl⟩ := List.mem_map.1 hr
   obtain ⟨y, hy, rfl⟩ := List.mem_map.1 hx
   have := hb.ok r' hr' y hy
   omega
theorem both_left {a b : DFA} (ha : Valid a) {s : Nat} (hs : s < a.next.length) : finN (both a b) s = finN a s ∧ ∀ x, x < letN a → toN (both a b) s x = toN a s x := by
 have hf : s < a.final.length := by rw [ha.fin]; exact hs
 refine ⟨?_, fun x hx => ?_⟩
 ·show (a.final ++ b.final).getD s false = _
  rw [List.getD_eq_getElem?_getD, List.getElem?_append_left hf, finN, List.getD_eq_getElem?_getD]
 ·have e : (both a b).next.getD s [] = a.next.getD s [] := by
   show (a.next ++ _).getD s [] = _
   simp [List.getD_eq_getElem?_getD, List.getElem?_append_left hs]
  unfold toN
  rw [e]
theorem both_right {a b : DFA} (ha : Valid a) (hb : Valid b) (hv : a.vars = b.vars) {t : Nat} (ht : t < b.next.length) : finN (both a b) (a.next.length + t) = finN b t ∧ ∀ x, x < letN a → toN (both a b) (a.next.length + t) x = a.next.length + toN b t x := by
 refine ⟨?_, fun x hx => ?_⟩
 ·show (a.final ++ b.final).getD _ false = _
  rw [List.getD_eq_getElem?_getD, List.getElem?_append_right (by rw [ha.fin]; omega), ha.fin, finN, List.getD_eq_getElem?_getD, Nat.add_sub_cancel_left]
 ·have hxb : x < letN b := by unfold letN at *; rw [← hv]; exact hx
  have hl : b.next[t].length = letN b := hb.len _ (List.getElem_mem ht)
  have hx' : x < b.next[t].length := by omega
  have hok := hb.ok _ (List.getElem_mem ht) _ (List.getElem_mem hx')
  have e : (both a b).next.getD (a.next.length + t) [] = b.next[t].map fun x => (a.next.length : Int) + x := by
   show (a.next ++ _).getD _ [] = _
   rw [List.getD_eq_getElem?_getD, List.getElem?_append_right (by omega), Nat.add_sub_cancel_left]
   simp [ht]
  unfold toN
  rw [e]
  simp [ht, hx', List.getD_eq_getElem?_getD]
  omega
theorem both_runL {a b : DFA} (ha : Valid a) {s : Nat} (hs : s < a.next.length) : ∀ w, Wd a w → runN (both a b) s w = runN a s w := by
 refine snocInd (fun _ => rfl) ?_
 intro w x ih hw
 have hw' : Wd a w := fun y hy => hw y (by simp [hy])
 rw [runN_snoc, runN_snoc, ih hw', (both_left ha (runN_lt ha hs w hw')).2 x (hw x (by simp))]
theorem both_runR {a b : DFA} (ha : Valid a) (hb : Valid b) (hv : a.vars = b.vars) {t : Nat} (ht : t < b.next.length) : ∀ w, Wd a w → runN (both a b) (a.next.length + t) w = a.next.length + runN b t w := by
 refine snocInd (fun _ => rfl) ?_
 intro w x ih hw
 have hw' : Wd a w := fun y hy => hw y (by simp [hy])
 have hwb : Wd b w := fun y hy => by have := hw' y hy; unfold letN at *; rw [← hv]; exact this
 rw [runN_snoc, runN_snoc, ih hw', (both_right ha hb hv (runN_lt hb ht w hwb)).2 x (hw x (by simp))]
theorem both_dst {a b : DFA} (ha : Valid a) (hb : Valid b) (hv : a.vars = b.vars) {w : List Nat} (hw : Wd a w) : dst (both a b) a.start.toNat (a.next.length + b.start.toNat) w ↔ acc a w ≠ acc b w := by
 have hwb : Wd b w := fun y hy => by have := hw y hy; unfold letN at *; rw [← hv]; exact this
 unfold dst acc
 rw [both_runL ha (start_lt ha) w hw, both_runR ha hb hv (start_lt hb) w hw, (both_left ha (runN_lt ha (start_lt ha) w hw)).1, (both_right ha hb hv (runN_lt hb (start_lt hb) w hwb)).1]
theorem accV_zero {d : DFA} {w : List Nat} (h : runE d w = 0) : accV d w = acc d w := by unfold accV acc; rw [if_pos h]
end Go.Lx


namespace Go.Lx
open Go.RowKit
def stayD (v : Int) (f : Bool) : DFA := ⟨v, 0, [List.replicate (2 ^ v.toNat) 0], [f]⟩
theorem stay_valid {v : Int} (h0 : 0 ≤ v) (h6 : v ≤ 6) (f : Bool) : Valid (stayD v f) := by
 have n0 : 0 < (stayD v f).next.length := by show 0 < [_].length; simp
 have s1 : (stayD v f).start < ((stayD v f).next.length : Int) := by show (0 : Int) < (([_].length : Nat) : Int); simp
 have len : ∀ r ∈ (stayD v f).next, r.length = 2 ^ (stayD v f).vars.toNat := by
  intro r hr
  rw [List.mem_singleton.1 (show r ∈ [List.replicate (2 ^ v.toNat) (0 : Int)] from hr), List.length_replicate]; rfl
 have ok : ∀ r ∈ (stayD v f).next, ∀ x ∈ r, 0 ≤ x ∧ x < ((stayD v f).next.length : Int) := by
  intro r hr x hx
  rw [List.mem_singleton.1 (show r ∈ [List.replicate (2 ^ v.toNat) (0 : Int)] from hr)] at hx
  rw [List.eq_of_mem_replicate hx]
  exact ⟨Int.le_refl _, by show (0 : Int) < (([_].length : Nat) : Int); simp⟩
 exact ⟨{ v0 := h0, v6 := h6, n0 := n0, fin := rfl, s0 := Int.le_refl _, s1 := s1, len := len, ok := ok }, by show [_].length ≤ 4096; simp⟩
theorem stay_acc {v : Int} (h0 : 0 ≤ v) (h6 : v ≤ 6) (f : Bool) {w : List Nat} (hw : Wd (stayD v f) w) : acc (stayD v f) w = f := by
 have hv := stay_valid h0 h6 f
 have h1 := runN_lt hv (start_lt hv) w hw
 have h2 : runN (stayD v f) (stayD v f).start.toNat w = 0 := Nat.lt_one_iff.1 h1
 unfold acc; rw [h2]; rfl
def LeastA (d : DFA) : Option (List Nat) → Prop
 | some w => Wd d w ∧ acc d w = true ∧ ∀ u, Wd d u → acc d u = true → code w ≤ code u
 | none => ∀ u, Wd d u → acc d u = false
theorem LeastA.unique {d : DFA} (hv : Valid d) {a b : Option (List Nat)} (ha : LeastA d a) (hb : LeastA d b) : a = b := by
 cases a with
 | none =>
  cases b with
  | none => rfl
  | some w => have := ha w hb.1; rw [hb.2.1] at this; cases this
 | some w =>
  cases b with
  | none => have := hb w ha.1; rw [ha.2.1] at this; cases this
  | some u =>
   have h1 := ha.2.2 u hb.1 hb.2.1
   have h2 := hb.2.2 w ha.1 ha.2.1
   rw [code_inj w u (hv.wd64 ha.1) (hv.wd64 hb.1) (Nat.le_antisymm h1 h2)]
theorem LeastA.congr {d e : DFA} (hv : d.vars = e.vars) (h : ∀ w, Wd d w → acc d w = acc e w) {r : Option (List Nat)} (hr : LeastA d r) : LeastA e r := by
 have hwd : ∀ w, Wd e w → Wd d w := fun w hw y hy => by have := hw y hy; unfold letN at *; rw [hv]; exact this
 have hwe : ∀ w, Wd d w → Wd e w := fun w hw y hy => by have := hw y hy; unfold letN at *; rw [← hv]; exact this
 cases r with
 | none => exact fun u hu => by rw [← h u (hwd u hu)]; exact hr u (hwd u hu)
 | some w => exact ⟨hwe w hr.1, by rw [← h w hr.1]; exact hr.2.1, fun u hu hau => hr.2.2 u (hwd u hu) (by rw [h u (hwd u hu)]; exact hau)⟩
end Go.Lx


namespace Go.Lx
open Go.RowKit
def WdV (v : Int) (w : List Nat) : Prop := ∀ x ∈ w, x < 2 ^ v.toNat
structure HasL (v : Int) (n : Nat) (d : DFA) (p : List Nat → Bool) : Prop where
 valid : Valid d
 len : d.next.length ≤ n
 vars : d.vars = v
 acc : ∀ w, WdV v w → acc d w = p w
theorem HasL.of {d : DFA} {n : Nat} (h : Valid d) (hl : d.next.length ≤ n) : HasL d.vars n d (Lx.acc d) := ⟨h, hl, rfl, fun _ _ => rfl⟩
theorem HasL.wd {v : Int} {n : Nat} {d : DFA} {p : List Nat → Bool} (h : HasL v n d p) {w : List Nat} : Wd d w ↔ WdV v w := by unfold Wd WdV letN; rw [h.vars]
structure MinL (v : Int) (n : Nat) (d : DFA) (p : List Nat → Bool) : Prop extends HasL v n d p where
 min : minD d = d
theorem HasL.op {f : Bool → Bool → Bool} {v : Int} {n m : Nat} {a b : DFA} {p q : List Nat → Bool} (ha : HasL v n a p) (hb : HasL v m b q) (h : n * m ≤ 4096) : MinL v (n * m) (opD f a b) (fun w => f (p w) (q w)) := by
 have hl : a.next.length * b.next.length ≤ n * m := Nat.mul_le_mul ha.len hb.len
 have hv : a.vars = b.vars := by rw [ha.vars, hb.vars]
 refine ⟨⟨opD_valid ha.valid hb.valid hv (by omega), Nat.le_trans (opD_len ha.valid hb.valid hv (by omega)) hl, ha.vars, fun w hw => ?_⟩, opD_min ha.valid hb.valid hv (by omega)⟩
 rw [opD_acc ha.valid hb.valid hv (by omega) (ha.wd.2 hw), ha.acc w hw, hb.acc w hw]
theorem HasL.minim {v : Int} {n : Nat} {d : DFA} {p : List Nat → Bool} (h : HasL v n d p) : MinL v n (minD d) p :=
 ⟨⟨minD_valid h.valid, Nat.le_trans (minD_len h.valid) h.len, h.vars, fun w hw => by rw [minD_acc h.valid (h.wd.2 hw)]; exact h.acc w hw⟩, minD_min h.valid⟩
theorem MinL.ext {v : Int} {n m : Nat} {a b : DFA} {p q : List Nat → Bool} (ha : MinL v n a p) (hb : MinL v m b q) (h : ∀ w, WdV v w → p w = q w) : a = b :=
 min_ext ha.valid hb.valid ha.min hb.min (by rw [ha.vars, hb.vars]) fun w hw => by rw [ha.acc w (ha.wd.1 hw), hb.acc w (ha.wd.1 hw), h w (ha.wd.1 hw)]
def andB (x y : Bool) : Bool := x && y
def orB (x y : Bool) : Bool := x || y
def xorB (x y : Bool) : Bool := x != y
def minusB (x y : Bool) : Bool := x && !y
def notB (x _y : Bool) : Bool := !x
def notD (d : DFA) : DFA := opD notB d d
theorem HasL.not {v : Int} {n : Nat} {d : DFA} {p : List Nat → Bool} (h : HasL v n d p) (hn : n * n ≤ 4096) : MinL v (n * n) (notD d) (fun w => !p w) := h.op h hn
end Go.Lx


namespace Go.Lx
open Go.RowKit
theorem LeastA.none_iff {v : Int} {n : Nat} {d : DFA} {p : List Nat → Bool} (h : HasL v n d p) {r : Option (List Nat)} (hr : LeastA d r) : r = none ↔ ∀ w, WdV v w → p w = false := by
 cases r with
 | none => exact ⟨fun _ w hw => by rw [← h.acc w hw]; exact hr w (h.wd.2 hw), fun _ => rfl⟩
 | some u =>
  refine ⟨fun h => (by cases h), fun hp => ?_⟩
  have h1 := hr.2.1
  rw [h.acc u (h.wd.1 hr.1), hp u (h.wd.1 hr.1)] at h1; cases h1
end Go.Lx


namespace Go.Lx
open Go.RowKit
theorem pr_toN_lt {f : Bool → Bool → Bool} {a b : DFA} (ha : Val a) (hb : Val b) (hv : a.vars = b.vars) {o x : Nat} (ho : o < a.next.length * b.next.length) (hx : x < letN a) :
  toN (prodD f a b) o x = toN a (o / b.next.length) x * b.next.length + toN b (o % b.next.length) x ∧ toN (prodD f a b) o x < a.next.length * b.next.length := by
 obtain ⟨h1, h2⟩ := pr_split ho
 have h3 := prod_step (f := f) (a := a) (b := b) h1 h2 hx
 rw [Nat.div_add_mod'] at h3
 refine ⟨h3, ?_⟩
 rw [h3]
 exact pr_lt (ha.toN_lt h1 hx).1 (hb.toN_lt h2 (by rw [← hv]; exact hx)).1
theorem pr_bfs_ok {f : Bool → Bool → Bool} {a b : DFA} (ha : Val a) (hb : Val b) (hv : a.vars = b.vars) : ∀ i, (bfsN (prodD f a b) i).Nodup ∧ ∀ o ∈ bfsN (prodD f a b) i, o < a.next.length * b.next.length
 | 0 => by
  refine ⟨by simp [bfsN], fun o ho => ?_⟩
  simp only [bfsN, List.mem_singleton] at ho
  rw [ho, show (prodD f a b).start.toNat = a.start.toNat * b.next.length + b.start.toNat from Int.toNat_natCast _]
  exact pr_lt (start_lt ha) (start_lt hb)
 | i + 1 => by
  obtain ⟨h1, h2⟩ := pr_bfs_ok ha hb hv i
  rw [bfsN]
  split
  ·rename_i hi
   refine foldl_add_ok _ _ h1 h2 (fun t ht => ?_)
   obtain ⟨x, hx, rfl⟩ := List.mem_map.1 ht
   refine (pr_toN_lt ha hb hv (h2 _ ?_) (List.mem_range.1 hx)).2
   rw [List.getD_eq_getElem?_getD, List.getElem?_eq_getElem hi]
   exact List.getElem_mem hi
  ·exact ⟨h1, h2⟩
theorem pr_bfs_len {f : Bool → Bool → Bool} {a b : DFA} (ha : Val a) (hb : Val b) (hv : a.vars = b.vars) (i : Nat) : (bfsN (prodD f a b) i).length ≤ a.next.length * b.next.length := nodup_bound (pr_bfs_ok ha hb hv i).1 (pr_bfs_ok ha hb hv i).2
theorem pr_bfsM_ok {f : Bool → Bool → Bool} {a b : DFA} (ha : Val a) (hb : Val b) (hv : a.vars = b.vars) {i o x : Nat} (ho : o < a.next.length * b.next.length) (hx : x ≤ letN a) :
  (bfsM (prodD f a b) i o x).Nodup ∧ ∀ t ∈ bfsM (prodD f a b) i o x, t < a.next.length * b.next.length := by
 obtain ⟨h1, h2⟩ := pr_bfs_ok (f := f) ha hb hv i
 exact foldl_add_ok _ _ h1 h2 (fun t ht => by
  obtain ⟨y, hy, rfl⟩ := List.mem_map.1 ht
  exact (pr_toN_lt ha hb hv ho (by have := List.mem_range.1 hy; omega)).2)
theorem pr_bfsM_len {f : Bool → Bool → Bool} {a b : DFA} (ha : Val a) (hb : Val b) (hv : a.vars = b.vars) {i o x : Nat} (ho : o < a.next.length * b.next.length) (hx : x ≤ letN a) :
  (bfsM (prodD f a b) i o x).length ≤ a.next.length * b.next.length := nodup_bound (pr_bfsM_ok ha hb hv ho hx).1 (pr_bfsM_ok ha hb hv ho hx).2
theorem bfsM_full {d : DFA} {i o : Nat} (h : (bfsN d i)[i]? = some o) : bfsM d i o (2 ^ d.vars.toNat) = bfsN d (i + 1) := by rw [bfsN_succ h]; rfl
theorem bfsM_prefix {d : DFA} {i o x : Nat} (h : (bfsN d i)[i]? = some o) (hx : x ≤ 2 ^ d.vars.toNat) : bfsM d i o x <+: bfsN d (i + 1) := by
 rw [← bfsM_full h]
 unfold bfsM
 have h1 : List.range (2 ^ d.vars.toNat) = List.range x ++ (List.range (2 ^ d.vars.toNat)).drop x := by
  have h2 := List.take_append_drop x (List.range (2 ^ d.vars.toNat))
  rw [List.take_range, Nat.min_eq_left hx] at h2
  exact h2.symm
 rw [h1, List.map_append, List.foldl_append]
 exact foldl_prefix _ _
theorem ord_prefix {d : DFA} {i o x : Nat} (h : (bfsN d i)[i]? = some o) (hx : x ≤ 2 ^ d.vars.toNat) (hi : i + 1 ≤ d.next.length) : bfsM d i o x <+: order d :=
 (bfsM_prefix h hx).trans (bfsN_prefix d _ _ hi)
theorem visit_old {d : DFA} {i o x : Nat} (h : (bfsN d i)[i]? = some o) (hx : x ≤ 2 ^ d.vars.toNat) (hi : i + 1 ≤ d.next.length) {t : Nat} (ht : t ∈ bfsM d i o x) : ix t (bfsM d i o x) = ix t (order d) :=
 (ix_prefix (ord_prefix h hx hi) ht).symm
theorem visit_new {d : DFA} {i o x : Nat} (h : (bfsN d i)[i]? = some o) (hx : x < 2 ^ d.vars.toNat) (hi : i + 1 ≤ d.next.length) (ht : toN d o x ∉ bfsM d i o x) : (bfsM d i o x).length = ix (toN d o x) (order d) ∧ bfsM d i o (x + 1) = bfsM d i o x ++ [toN d o x] := by
 have h1 : bfsM d i o (x + 1) = bfsM d i o x ++ [toN d o x] := by rw [bfsM_step]; unfold add; rw [if_neg ht]
 have h2 := ord_prefix (x := x + 1) h hx hi
 refine ⟨?_, h1⟩
 rw [ix_prefix h2 (by rw [h1]; simp), h1, ix_append_right ht]
 simp [ix]
theorem visit_same {d : DFA} {i o x : Nat} (ht : toN d o x ∈ bfsM d i o x) : bfsM d i o (x + 1) = bfsM d i o x := by rw [bfsM_step]; unfold add; rw [if_pos ht]
end Go.Lx


namespace Go.Lx
open Go.RowKit
def Det (z a : DFA) : Prop := ∀ u u', WdV z.vars u → WdV z.vars u' → runN z z.start.toNat u = runN z z.start.toNat u' → runN a a.start.toNat u = runN a a.start.toNat u'
def Fac (z : DFA) (p : List Nat → Bool) : Prop := ∀ u u' w, WdV z.vars u → WdV z.vars u' → WdV z.vars w → runN z z.start.toNat u = runN z z.start.toNat u' → p (u ++ w) = p (u' ++ w)
theorem runN_append (d : DFA) (s : Nat) (u w : List Nat) : runN d s (u ++ w) = runN d (runN d s u) w := by simp [runN]
theorem WdV.append {v : Int} {u w : List Nat} (hu : WdV v u) (hw : WdV v w) : WdV v (u ++ w) := fun x hx => (List.mem_append.1 hx).elim (hu x) (hw x)
theorem wd_wdV {d : DFA} {w : List Nat} : Wd d w ↔ WdV d.vars w := Iff.rfl
theorem Det.refl (z : DFA) : Det z z := fun _ _ _ _ h => h
theorem Det.fac {z a : DFA} {n : Nat} {p : List Nat → Bool} (h : Det z a) (ha : HasL z.vars n a p) : Fac z p := fun u u' w hu hu' hw e => by
 rw [← ha.acc _ (hu.append hw), ← ha.acc _ (hu'.append hw)]
 unfold acc
 rw [runN_append, runN_append, h u u' hu hu' e]
theorem Fac.op {z : DFA} {p q : List Nat → Bool} (f : Bool → Bool → Bool) (hp : Fac z p) (hq : Fac z q) : Fac z (fun w => f (p w) (q w)) := fun u u' w hu hu' hw e => by
 show f _ _ = f _ _
 rw [hp u u' w hu hu' hw e, hq u u' w hu hu' hw e]
theorem Det.prodL {f : Bool → Bool → Bool} {a b : DFA} (ha : Val a) (hb : Val b) (hv : a.vars = b.vars) : Det (prodD f a b) a ∧ Det (prodD f a b) b := by
 have key : ∀ u u', Wd a u → Wd a u' → runN (prodD f a b) (prodD f a b).start.toNat u = runN (prodD f a b) (prodD f a b).start.toNat u' → runN a a.start.toNat u = runN a a.start.toNat u' ∧ runN b b.start.toNat u = runN b b.start.toNat u' := fun u u' hu hu' e => by
  have hs : (prodD f a b).start.toNat = a.start.toNat * b.next.length + b.start.toNat := Int.toNat_natCast _
  rw [hs, prod_run ha hb hv (start_lt ha) (start_lt hb) u hu, prod_run ha hb hv (start_lt ha) (start_lt hb) u' hu'] at e
  have hbu : Wd b u := fun x hx => by have := hu x hx; unfold letN at *; rw [← hv]; exact this
  have hbu' : Wd b u' := fun x hx => by have := hu' x hx; unfold letN at *; rw [← hv]; exact this
  have h1 := pr_div (s := runN a a.start.toNat u) (runN_lt hb (start_lt hb) u hbu)
  have h2 := pr_div (s := runN a a.start.toNat u') (runN_lt hb (start_lt hb) u' hbu')
  rw [← e] at h2
  exact ⟨h1.1.symm.trans h2.1, h1.2.symm.trans h2.2⟩
 exact ⟨fun u u' hu hu' e => (key u u' hu hu' e).1, fun u u' hu hu' e => (key u u' hu hu' e).2⟩
theorem Det.trans {z y a : DFA} (hv : z.vars = y.vars) (h : Det z y) (h2 : Det y a) : Det z a := fun u u' hu hu' e => h2 u u' (hv ▸ hu) (hv ▸ hu') (h u u' hu hu' e)
theorem Fac.det {z a : DFA} {n : Nat} {p : List Nat → Bool} (h : Fac z p) (ha : MinL z.vars n a p) : Det z a := fun u u' hu hu' e => by
 have hva := ha.valid
 have wu : Wd a u := ha.wd.2 hu
 have wu' : Wd a u' := ha.wd.2 hu'
 have hs := runN_lt hva (start_lt hva) u wu
 have ht := runN_lt hva (start_lt hva) u' wu'
 refine Classical.byContradiction fun hne => ?_
 have hT : Tell (minD a) (runN a a.start.toNat u) (runN a a.start.toNat u') none := fun w hw hd => by
  rw [ha.min] at hw hd
  refine hd ?_
  have hwv : WdV z.vars w := ha.wd.1 hw
  have := h u u' w hu hu' hwv e
  rw [← ha.acc _ (hu.append hwv), ← ha.acc _ (hu'.append hwv)] at this
  unfold acc at this
  rw [runN_append, runN_append] at this
  exact this
 have := (minD_apart hva (by rw [ha.min]; exact hs) (by rw [ha.min]; exact ht) hT).2 hne
 exact absurd this (by simp)
theorem order_fact {d z : DFA} (hd : Val d) (hz : Val z) (hv : z.vars = d.vars) (h : Det z d) : (order d).length ≤ z.next.length := by
 classical
 have hr : ∀ o ∈ order d, ∃ w, Wd d w ∧ runN d d.start.toNat w = o := fun o ho => bfsN_reach hd _ o ho
 let g : Nat → Nat := fun o => if hx : ∃ w, Wd d w ∧ runN d d.start.toNat w = o then runN z z.start.toNat (Classical.choose hx) else 0
 have hg : ∀ o ∈ order d, ∃ w, Wd d w ∧ runN d d.start.toNat w = o ∧ g o = runN z z.start.toNat w := fun o ho => by
  have hx := hr o ho
  refine ⟨Classical.choose hx, (Classical.choose_spec hx).1, (Classical.choose_spec hx).2, ?_⟩
  show (if hx : _ then _ else _) = _
  rw [dif_pos hx]
 have wz : ∀ w, Wd d w → WdV z.vars w := fun w hw => by rw [hv]; exact hw
 have hn : ((order d).map g).Nodup := map_nodup (bfsN_ok hd _).1 fun a ha b hb e => by
  obtain ⟨u, hu, rfl, e1⟩ := hg a ha
  obtain ⟨u', hu', rfl, e2⟩ := hg b hb
  exact h u u' (wz u hu) (wz u' hu') (by rw [← e1, ← e2, e])
 have := nodup_bound (n := z.next.length) hn fun x hx => by
  obtain ⟨o, ho, rfl⟩ := List.mem_map.1 hx
  obtain ⟨u, hu, _, e1⟩ := hg o ho
  rw [e1]
  exact runN_lt hz (start_lt hz) u (wz u hu)
 simpa using this
theorem pr_order_factW {f : Bool → Bool → Bool} {a b z : DFA} (ha : Val a) (hb : Val b) (hv : a.vars = b.vars) (hz : Val z) (hzv : z.vars = a.vars) (h1 : Det z a) (h2 : Det z b) : (order (prodD f a b)).length ≤ z.next.length := by
 refine order_fact (prod_val ha hb hv) hz hzv fun u u' hu hu' e => ?_
 rw [show (prodD f a b).start.toNat = a.start.toNat * b.next.length + b.start.toNat from Int.toNat_natCast _,
  prod_run ha hb hv (start_lt ha) (start_lt hb) u (by rw [wd_wdV, ← hzv]; exact hu), prod_run ha hb hv (start_lt ha) (start_lt hb) u' (by rw [wd_wdV, ← hzv]; exact hu'), h1 u u' hu hu' e, h2 u u' hu hu' e]
end Go.Lx


namespace Go.Lx
open Go.RowKit
def noD : DFA := ⟨0, 0, [], []⟩
def wrongD (a b : DFA) : Nat := if checkD a ≠ 0 then checkD a else if checkD b ≠ 0 then checkD b else if a.vars ≠ b.vars then 7 else 0
def opV (f : Bool → Bool → Bool) (a b : DFA) : DFA := if wrongD a b = 0 then opD f a b else noD
theorem wrongD_zero {a b : DFA} : wrongD a b = 0 ↔ Valid a ∧ Valid b ∧ a.vars = b.vars := by
 unfold wrongD
 rw [← checkD_zero, ← checkD_zero]
 split
 ·rename_i h; constructor
  ·intro e; exact absurd e h
  ·intro e; exact absurd e.1 h
 ·rename_i h1; split
  ·rename_i h; constructor
   ·intro e; exact absurd e h
   ·intro e; exact absurd e.2.1 h
  ·rename_i h2; split
   ·rename_i h; constructor
    ·intro e; exact absurd e (by decide)
    ·intro e; exact absurd e.2.2 h
   ·rename_i h; constructor
    ·intro _; exact ⟨by omega, by omega, Classical.not_not.1 h⟩
    ·intro _; rfl
theorem wrong_first {a b : DFA} (h : checkD a ≠ 0) : wrongD a b = checkD a := by unfold wrongD; rw [if_pos h]
theorem wrong_second {a b : DFA} (h : checkD a = 0) (h2 : checkD b ≠ 0) : wrongD a b = checkD b := by unfold wrongD; rw [if_neg (by omega), if_pos h2]
theorem wrong_vars {a b : DFA} (h : checkD a = 0) (h2 : checkD b = 0) (h3 : a.vars ≠ b.vars) : wrongD a b = 7 := by unfold wrongD; rw [if_neg (by omega), if_neg (by omega), if_pos h3]
theorem opV_ok {f : Bool → Bool → Bool} {a b : DFA} (h : wrongD a b = 0) : opV f a b = opD f a b := by unfold opV; rw [if_pos h]
theorem opV_bad {f : Bool → Bool → Bool} {a b : DFA} (h : wrongD a b ≠ 0) : opV f a b = noD := by unfold opV; rw [if_neg h]
def un (n c : Nat) : Int × Int := (((c / n : Nat) : Int), ((c % n : Nat) : Int))
theorem un_inj {n c e : Nat} (h : un n c = un n e) : c = e := by
 unfold un at h
 simp only [Prod.mk.injEq] at h
 have h1 : c / n = e / n := by omega
 have h2 : c % n = e % n := by omega
 rw [← Nat.div_add_mod c n, ← Nat.div_add_mod e n, h1, h2]
abbrev unC (n c : Nat) : List Value := [.int .i64 ((c / n : Nat) : Int), .int .i64 ((c % n : Nat) : Int)]
def prs (n : Nat) (ks : List Nat) : List Value := ks.flatMap (unC n)
theorem prs_snoc (n : Nat) (ks : List Nat) (c : Nat) : prs n (ks ++ [c]) = prs n ks ++ unC n c := by simp [prs]
theorem prs_len (n : Nat) : ∀ ks : List Nat, (prs n ks).length = ks.length * 2
 | [] => rfl
 | c :: ks => by
  have := prs_len n ks
  simp only [prs, List.flatMap_cons, List.length_append, List.length_cons, List.length_nil] at this ⊢
  omega
theorem prs_get {n : Nat} : ∀ {ks : List Nat} {i c : Nat}, ks[i]? = some c → ∀ j (h : j < (unC n c).length), (prs n ks)[i * 2 + j]? = some (unC n c)[j]
 | [], i, c, h, _, _ => by simp at h
 | e :: ks, 0, c, h, j, hj => by
  simp only [List.getElem?_cons_zero, Option.some.injEq] at h
  subst h
  rw [Nat.zero_mul, Nat.zero_add, show prs n (e :: ks) = unC n e ++ prs n ks from rfl, List.getElem?_append_left hj]
  exact List.getElem?_eq_getElem hj
 | e :: ks, i + 1, c, h, j, hj => by
  rw [show prs n (e :: ks) = unC n e ++ prs n ks from rfl, List.getElem?_append_right (by show 2 ≤ _; omega), show (i + 1) * 2 + j - (unC n e).length = i * 2 + j by show (i + 1) * 2 + j - 2 = _; omega]
  exact prs_get (by simpa using h) j hj
abbrev pmap (n : Nat) (ks : List Nat) : List ((Int × Int) × Nat) := (ks.map (un n)).zipIdx
theorem un_mem {n c : Nat} {ks : List Nat} : un n c ∈ ks.map (un n) ↔ c ∈ ks := by
 constructor
 ·intro h
  obtain ⟨e, he, h2⟩ := List.mem_map.1 h
  rw [← un_inj h2]; exact he
 ·exact fun h => List.mem_map_of_mem h
theorem un_ix (n c : Nat) : ∀ ks : List Nat, ix (un n c) (ks.map (un n)) = ix c ks
 | [] => rfl
 | e :: ks => by
  simp only [List.map_cons, ix, un_ix n c ks]
  by_cases h : c = e
  ·rw [h]; simp
  ·rw [if_neg (fun h2 => h (un_inj h2)), if_neg h]
theorem pmap_snoc (n : Nat) (ks : List Nat) (c : Nat) : pmap n (ks ++ [c]) = pmap n ks ++ [(un n c, ks.length)] := by
 show ((ks ++ [c]).map (un n)).zipIdx = _
 rw [List.map_append, List.zipIdx_append]; simp
theorem pmap_fst (n : Nat) (ks : List Nat) : (pmap n ks).map Prod.fst = ks.map (un n) := zipIdx_fst _ 0
def rnR (d : DFA) (o : Nat) : List Int := (renRow d o).map fun x : Nat => (x : Int)
theorem renum_rows (d : DFA) : (renum d).next = (order d).map (rnR d) := renum_next d
theorem renum_fins (d : DFA) : (renum d).final = (order d).map (finN d) := rfl
theorem bfs_at {d : DFA} {i o : Nat} (h : (bfsN d i)[i]? = some o) (hi : i ≤ d.next.length) : (order d)[i]? = some o := by
 obtain ⟨hl, e⟩ := List.getElem?_eq_some_iff.1 h
 obtain ⟨r, hr⟩ := bfsN_prefix d i d.next.length hi
 show (bfsN d d.next.length)[i]? = _
 rw [← hr, List.getElem?_append_left hl]; exact h
theorem take_at {α : Type} {l : List α} {i : Nat} {o : α} (h : l[i]? = some o) : l.take (i + 1) = l.take i ++ [o] := by
 obtain ⟨hl, e⟩ := List.getElem?_eq_some_iff.1 h
 rw [List.take_succ_eq_append_getElem hl, e]
theorem pr_fin_at {f : Bool → Bool → Bool} {a b : DFA} {o : Nat} (ho : o < a.next.length * b.next.length) : finN (prodD f a b) o = f (finN a (o / b.next.length)) (finN b (o % b.next.length)) := by
 obtain ⟨h1, h2⟩ := pr_split ho
 have := prod_fin (f := f) h1 h2
 rwa [Nat.div_add_mod'] at this
theorem pr_stop {f : Bool → Bool → Bool} {a b : DFA} {N : Nat} (va : Valid a) (vb : Valid b) (hv : a.vars = b.vars) (h : (bfsN (prodD f a b) N).length = N) : order (prodD f a b) = bfsN (prodD f a b) N :=
 order_eq h (by have := pr_bfs_len (f := f) va vb hv N; rw [prod_len]; omega)
theorem itms_snoc (E : TypeId) (qs : List Rec) (r : Rec) : itms E (qs ++ [r]) = itms E qs ++ [r.itm E] := List.map_append
theorem Sub.fold (A : List Item) (x : Item) (B S S' : List Item) (h : S' = S ++ [x]) : Sub ((A ++ S') ++ B) ((A ++ (x :: B)) ++ S) := by
 subst h
 refine ⟨_, ?_, List.Sublist.refl _⟩
 have h1 : (A ++ (S ++ [x])) ++ B = A ++ (S ++ (x :: B)) := by simp
 have h2 : (A ++ (x :: B)) ++ S = A ++ ((x :: B) ++ S) := by simp
 rw [h1, h2]
 exact List.Perm.append_left A List.perm_append_comm
end Go.Lx


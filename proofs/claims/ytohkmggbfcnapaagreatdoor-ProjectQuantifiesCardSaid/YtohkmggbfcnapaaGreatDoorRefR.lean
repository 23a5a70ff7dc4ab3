/- Contracts of functions of the program (Min, Ren, Rn, Quo, Dist, Diff, RefR): what each call answers and that it leaves memory as it was. Conditions: those each theorem names. -/
import Derived.Test.YtohkmggbfcnapaaGreatDoorCoreK
import Derived.Test.YtohkmggbfcnapaaGreatDoorStr
import Derived.Test.YtohkmggbfcnapaaGreatDoorBolE
set_option linter.unusedSectionVars false
set_option linter.unusedSimpArgs false
set_option linter.unusedVariables false
set_option linter.unnecessarySimpa false
set_option maxHeartbeats 8000000
set_option maxRecDepth 20000
namespace Go.Proofs.YtohkmggbfcnapaaGreatDoor
open Go.Lx Go.RowKit _root_.Go.Proofs.Tryz
theorem giveHit (base : World) [Tab Tryz.prog base] (bx m : Nat) (ks : List (List UInt8)) (key : List UInt8) (hk : key ∈ ks) (hb : ks.length < 1000000) :
  CallT Tryz.prog base 142 [str key, .pointer (aD bx)] [objI bx (.cells #[.map (some m)] 71 (0, 0)), mapI str (fun n : Nat => Value.int .i64 (n : Int)) m ks.zipIdx] (fun v O' => v = vI ((ix key (add ks key) : Nat) : Int) ∧ O' = [objI bx (.cells #[.map (some m)] 71 (0, 0)), mapI str (fun n : Nat => Value.int .i64 (n : Int)) m (add ks key).zipIdx]) := by
 refine CallT.enter func142 rfl ntmps142 rfl ?_
 refine T.s (T.rg (TO.qa rfl (TO.nl (T.s (T.rg (TO.q (q_lb 0 uT71 rfl rfl rfl rfl) (TO.qm rfl (TO.q (QT.cast (q_lookupOk (a := key) uT71 inf3 (KeyOk.string uT9) rfl rfl (mG 1 rfl)) (v' := (.tuple #[vI ((ix key ks : Nat) : Int), .bool true])) (by rw [look_zip]; simp [hk])) (TO.qm rfl (TO.q (q_extract (vs := _) rfl rfl) (TO.q (q_extract (vs := _) rfl rfl) (TO.qa rfl (TO.qa rfl (TO.nl (T.s (T.s (T.rg (TO.qm rfl (TO.q (q_not rfl) (TO.nl ?_))))))))))))))))))))
 refine T.cond0 rfl (T.skip (T.s (T.rg (TO.qm rfl (TO.qa rfl (TO.nl (T.ret ?_)))))))
 refine Res.one (vI ((ix key ks : Nat) : Int)) Tryz.results142 rfl ?_
 have ha : add ks key = ks := if_pos hk
 rw [ha]; exact ⟨rfl, rfl⟩
theorem giveMiss (base : World) [Tab Tryz.prog base] (bx m : Nat) (ks : List (List UInt8)) (key : List UInt8) (hk : key ∉ ks) (hb : ks.length < 1000000) :
  CallT Tryz.prog base 142 [str key, .pointer (aD bx)] [objI bx (.cells #[.map (some m)] 71 (0, 0)), mapI str (fun n : Nat => Value.int .i64 (n : Int)) m ks.zipIdx] (fun v O' => v = vI ((ix key (add ks key) : Nat) : Int) ∧ O' = [objI bx (.cells #[.map (some m)] 71 (0, 0)), mapI str (fun n : Nat => Value.int .i64 (n : Int)) m (add ks key).zipIdx]) := by
 refine CallT.enter func142 rfl ntmps142 rfl ?_
 refine T.s (T.rg (TO.qa rfl (TO.nl (T.s (T.rg (TO.q (q_lb 0 uT71 rfl rfl rfl rfl) (TO.qm rfl (TO.q (QT.cast (q_lookupOk (a := key) uT71 inf3 (KeyOk.string uT9) rfl rfl (mG 1 rfl)) (v' := (.tuple #[vI 0, .bool false])) (by rw [look_zip]; simp [hk])) (TO.qm rfl (TO.q (q_extract (vs := _) rfl rfl) (TO.q (q_extract (vs := _) rfl rfl) (TO.qa rfl (TO.qa rfl (TO.nl (T.s (T.s (T.rg (TO.qm rfl (TO.q (q_not rfl) (TO.nl ?_))))))))))))))))))))
 refine T.cond1 rfl ?_
 refine T.s (T.rg (TO.q (q_lb 0 uT71 rfl rfl rfl rfl) (TO.q (QT.cast (q_lenMap uT71 rfl (mG 1 rfl)) (v' := vI ((ks.length : Nat) : Int)) (by simp)) (TO.qa rfl (TO.nl (T.rg (TO.q (q_lb 0 uT71 rfl rfl rfl rfl) (TO.qm rfl (TO.qm rfl (TO.l rfl (l_mapPut (a := key) (v := ks.length) 1 uT71 (KeyOk.string uT9) rfl rfl rfl rfl (by rw [zipIdx_fst]; exact hk) ?_)))))))))))
 refine TO.nl (T.s (T.rg (TO.qm rfl (TO.qa rfl (TO.nl (T.ret ?_))))))
 refine Res.one (vI ((ks.length : Nat) : Int)) Tryz.results142 rfl ?_
 have ha : add ks key = ks ++ [key] := if_neg hk
 rw [ha]
 refine ⟨by rw [ix_append_right hk]; simp [ix], ?_⟩
 rw [show (ks ++ [key]).zipIdx = ks.zipIdx ++ [(key, ks.length)] by rw [List.zipIdx_append]; simp]; rfl
theorem give (base : World) [Tab Tryz.prog base] (bx m : Nat) (ks : List (List UInt8)) (key : List UInt8) (hb : ks.length < 1000000) :
  CallT Tryz.prog base 142 [str key, .pointer (aD bx)] [objI bx (.cells #[.map (some m)] 71 (0, 0)), mapI str (fun n : Nat => Value.int .i64 (n : Int)) m ks.zipIdx] (fun v O' => v = vI ((ix key (add ks key) : Nat) : Int) ∧ O' = [objI bx (.cells #[.map (some m)] 71 (0, 0)), mapI str (fun n : Nat => Value.int .i64 (n : Int)) m (add ks key).zipIdx]) := by
 by_cases hk : key ∈ ks
 ·exact giveHit base bx m ks key hk hb
 ·exact giveMiss base bx m ks key hk hb
theorem rowsF (w : World) [Tab Tryz.prog w] (d : DFA) (nb fb : Option Addr) (nc fc : Nat) : PureT Tryz.prog 73 [.agg (dfaCells d nb nc fb fc).toArray] w fun v N => ∃ b, v = .func (.func 99) #[] #[.pointer (aD b)] ∧ N = [oI b 25 [(vI d.vars), (vI d.start), (.slice nb d.next.length nc), (.slice fb d.final.length fc)]] := by
 refine CallT.enter func73 rfl ntmps73 rfl ?_
 refine T.s (T.rg (TO.l rfl (l_box (v := (.agg #[(vI d.vars), (vI d.start), (.slice nb d.next.length nc), (.slice fb d.final.length fc)])) (cs := [(vI d.vars), (vI d.start), (.slice nb d.next.length nc), (.slice fb d.final.length fc)]) rfl rfl (fun b1 => ?_))))
 refine TO.qa rfl (TO.nl (T.s (T.rg (TO.q (q_makeFunc) (TO.qa rfl (TO.nl (T.ret ?_)))))))
 refine Res.one (.func (.func 99) #[] #[(.pointer (aD b1))]) Tryz.results73 rfl ?_
 exact ⟨b1, rfl, rfl⟩
theorem rows1 (base : World) [Tab Tryz.prog base] (d : DFA) (nb fb : Option Addr) (nc fc : Nat) (vs : List Value) (h : DfaAt base d nb vs fb) (hb : d.next.length < 9223372036854775807) (bx : Nat) (yv : Value) (J : Nat → List Lx.Item → Prop) (Q : List Lx.Item → Prop)
  (hy : ∀ k (hk : k < d.next.length) (vb : Option Addr) (vc : Nat) (O : List Lx.Item), vs[k]? = some (.slice vb d.next[k].length vc) → Sl base vb (ints d.next[k]) → J k O →
   CallV Tryz.prog base yv [vI (k : Int), .slice vb d.next[k].length vc] O (fun v O' => (v = .bool true ∧ J (k + 1) O') ∨ (v = .bool false ∧ Q O')))
  (O : List Lx.Item) (h0 : J 0 O) : CallT Tryz.prog base 99 [yv, .pointer (aD bx)] (oI bx 25 [(vI d.vars), (vI d.start), (.slice nb d.next.length nc), (.slice fb d.final.length fc)] :: O) (fun _ O' => J d.next.length O' ∨ Q O') := by
 refine CallT.enter func99 rfl ntmps99 rfl ?_
 have hvl := h.rows.1
 refine T.s (T.rg (TO.q (q_fa uT25 rfl inf22 rfl rfl) (TO.q (q_lb 0 uT22 rfl rfl rfl rfl) (TO.q (q_len uT22 rfl) (TO.qm rfl (TO.nl (T.block ?_)))))))
 refine T.loop (fun (k : Nat) ρ O => ∃ (O1 : List Lx.Item), O = ([oI bx 25 [(vI d.vars), (vI d.start), (.slice nb d.next.length nc), (.slice fb d.final.length fc)]] ++ O1) ∧ k ≤ d.next.length ∧ J k O1 ∧ Heads [(0, yv), (1, (.pointer (aD bx))), (6, (.slice nb d.next.length nc)), (7, vI (d.next.length : Int)), (8, vI (k : Int))] ρ) (fun k => d.next.length - k) 0 ?_ ?_
 ·exact ⟨O, rfl, Nat.zero_le _, h0, (.of rfl)⟩
 rintro k ρ O ⟨O1, rfl, hk, hJ, hH⟩
 obtain ⟨ρ0, rfl⟩ := hH.elim
 clear hH
 refine T.s (T.rg (TO.q (q_lss rfl rfl) (TO.nl (T.s (T.condP rfl (fun hc => ?_) (fun hc => ?_))))))
 ·have hlt9 : k < d.next.length := by omega
  obtain ⟨vb, vc, g1, s1⟩ := h.rows.get hlt9
  refine T.skip (T.s (T.block (T.s (T.rg (TO.qm rfl (TO.q (q_ix (i := k) uT22 inf37 rfl rfl (Sl.o h.outer)) (TO.q (q_ld uT37 rfl rfl (Sl.o h.outer) g1) (TO.qa rfl (TO.qa rfl (TO.nl (T.s (T.rg (TO.qm rfl (TO.qm rfl (TO.qm rfl ?_)))))))))))))))
  have hk16 := CallV.under (B := [oI bx 25 [(vI d.vars), (vI d.start), (.slice nb d.next.length nc), (.slice fb d.final.length fc)]]) (O := ([oI bx 25 [(vI d.vars), (vI d.start), (.slice nb d.next.length nc), (.slice fb d.final.length fc)]] ++ O1)) (hy k hlt9 vb vc O1 g1 s1 hJ) (Sub.ca [])
  refine TO.l rfl (l_callG hk16 rfl rfl ?_)
  clear hk16
  rintro v O' ⟨O2, rfl, ⟨rfl, hJ2⟩ | ⟨rfl, hQ2⟩⟩
  ·refine TO.q (q_not rfl) ?_
   refine TO.nl (T.cond0 rfl (T.skip ?_))
   refine T.sub (O' := oI bx 25 [(vI d.vars), (vI d.start), (.slice nb d.next.length nc), (.slice fb d.final.length fc)] :: O2) (Sub.ca []) ?_
   refine T.rg (TO.q (q_inc rfl rfl (by omega)) (TO.qm rfl (TO.nl ?_)))
   exact ⟨k + 1, by omega, O2, rfl, by omega, hJ2, (.of rfl)⟩
  refine TO.q (q_not rfl) (TO.nl ?_)
  refine T.cond1 rfl ?_
  refine T.ret (Res.drop ?_)
  refine Res.zero Tryz.results99 ?_
  exact ⟨O2, Sub.ca [oI bx 25 [(vI d.vars), (vI d.start), (.slice nb d.next.length nc), (.slice fb d.final.length fc)]], .inr hQ2⟩
 have hge9 : ¬ k < d.next.length := by omega
 refine T.exit ?_
 refine Res.drop ?_
 refine Res.zero Tryz.results99 ?_
 have hke : k = d.next.length := by omega
 subst hke
 exact ⟨O1, Sub.ca [oI bx 25 [(vI d.vars), (vI d.start), (.slice nb d.next.length nc), (.slice fb d.final.length fc)]], .inl hJ⟩
theorem refineC (w : World) [Tab Tryz.prog w] (d : DFA) (nb fb : Option Addr) (nc fc : Nat) (vs : List Value) (h : DfaAt w d nb vs fb) (hv : Valid d) (cb : Option Addr) (cc : Nat) (cs : List Nat) (hcs : Sl w cb (nats cs)) (hcl : cs.length = d.next.length) (hc9 : ∀ x ∈ cs, x < 10000) :
  PureT Tryz.prog 120 [.agg (dfaCells d nb nc fb fc).toArray, .slice cb d.next.length cc] w fun v N => ∃ b c, v = .slice b d.next.length c ∧ N = [rowI b c 3 1 (nats (refineF d cs))] := by
 refine CallT.enter func120 rfl ntmps120 rfl ?_
 have hb : d.next.length < 9223372036854775807 := by have := hv.n4; omega
 have hvl := h.rows.1
 have hn4 := hv.n4
 refine T.s (T.rg (TO.l rfl (l_box (v := (.agg #[(vI d.vars), (vI d.start), (.slice nb d.next.length nc), (.slice fb d.final.length fc)])) (cs := [(vI d.vars), (vI d.start), (.slice nb d.next.length nc), (.slice fb d.final.length fc)]) rfl rfl (fun b1 => ?_))))
 refine TO.l rfl (l_box (v := (.slice cb d.next.length cc)) (cs := [(.slice cb d.next.length cc)]) rfl rfl (fun b2 => ?_))
 refine TO.qa rfl (TO.nl (T.s (T.rg (TO.l rfl (l_makeMap str (fun n : Nat => Value.int .i64 (n : Int)) (fun m3 => ?_))))))
 refine TO.l rfl (l_alloc inf71 rfl (fun b4 => ?_))
 refine TO.l rfl (l_sb (v := (.map (some m3))) (vs := [(.map (some m3))]) 0 inf71 rfl rfl rfl rfl rfl rfl (by simp [putL]) ?_)
 refine TO.nl (T.s (T.rg (TO.q (q_makeFunc) (TO.l rfl (l_alloc inf154 rfl (fun b5 => ?_))))))
 refine TO.l rfl (l_sb (v := (.func (.func 142) #[] #[(.pointer (aD b4))])) (vs := [(.func (.func 142) #[] #[(.pointer (aD b4))])]) 0 inf154 rfl rfl rfl rfl rfl rfl (by simp [putL]) ?_)
 refine TO.nl (T.s (T.rg (TO.q (q_lb 3 uT37 rfl rfl rfl rfl) (TO.q (q_len uT37 rfl) (TO.l rfl (l_makeSlice (m := d.next.length) uT37 inf3 rfl rfl (by omega) (by omega) (fun b6 => ?_)))))))
 refine TO.l rfl (l_alloc inf37 rfl (fun b7 => ?_))
 refine TO.l rfl (l_sb (v := (.slice (aD b6) d.next.length d.next.length)) (vs := [(.slice (aD b6) d.next.length d.next.length)]) 0 inf37 rfl rfl rfl rfl rfl rfl (by simp [putL]) ?_)
 refine TO.nl (T.s (T.s (T.rg (TO.q (q_la 6 uT25 rfl inf25 rfl rfl rfl) ?_))))
 have hk19 := fun (w1 : World) (hI : Inv w [oI b7 37 [(.slice (aD b6) d.next.length d.next.length)], rowI (aD b6) d.next.length 3 1 (List.replicate d.next.length (vI 0)), oI b5 154 [(.func (.func 142) #[] #[(.pointer (aD b4))])], oI b4 71 [(.map (some m3))], mapI str (fun n : Nat => Value.int .i64 (n : Int)) m3 [], oI b2 37 [(.slice cb d.next.length cc)], oI b1 25 [(vI d.vars), (vI d.start), (.slice nb d.next.length nc), (.slice fb d.final.length fc)]] w1) => (haveI := tbz hI; rowsF w1 d nb fb nc fc)
 refine TO.l rfl (l_call ent73 (CallT.op hk19) rfl ?_)
 clear hk19
 rintro v O' ⟨N, rfl, bR, rfl, rfl⟩
 refine TO.nl (T.block ?_)
 refine T.rangeFunc (first := []) (caps := [(.pointer (aD bR))]) rfl ent99 (fun yl yq yhq => ?_)
 refine CallT.mono (CallT.sub (O' := oI bR 25 [(vI d.vars), (vI d.start), (.slice nb d.next.length nc), (.slice fb d.final.length fc)] :: (objI yl (lp yq none) :: [oI b7 37 [(.slice (aD b6) d.next.length d.next.length)], rowI (aD b6) d.next.length 3 1 (List.replicate d.next.length (vI 0)), oI b5 154 [(.func (.func 142) #[] #[(.pointer (aD b4))])], oI b4 71 [(.map (some m3))], mapI str (fun n : Nat => Value.int .i64 (n : Int)) m3 [], oI b2 37 [(.slice cb d.next.length cc)], oI b1 25 [(vI d.vars), (vI d.start), (.slice nb d.next.length nc), (.slice fb d.final.length fc)]])) (Sub.pick [1, 0, 0, 0, 0, 0, 0, 0, 0] rfl) (rows1 w d nb fb nc fc vs h hb bR (.func (.yield yl) #[] #[]) (fun k O => ∃ (xs : List Nat) (ks : List (List UInt8)), O = objI yl (lp yq none) :: [oI b7 37 [(.slice (aD b6) d.next.length d.next.length)], rowI (aD b6) d.next.length 3 1 (nats xs), oI b5 154 [(.func (.func 142) #[] #[(.pointer (aD b4))])], oI b4 71 [(.map (some m3))], mapI str (fun n : Nat => Value.int .i64 (n : Int)) m3 ks.zipIdx, oI b2 37 [(.slice cb d.next.length cc)], oI b1 25 [(vI d.vars), (vI d.start), (.slice nb d.next.length nc), (.slice fb d.final.length fc)]] ∧ k ≤ d.next.length ∧ xs.length = d.next.length ∧ ks = dd ((keysD d cs).take k) ∧ (∀ s, s < k → xs[s]? = some (ix (keyD d cs s) ks))) (fun _ => False) ?_ _ ?_)) ?_
 ·intro k hlt vb vc O g1 s1 hJ
  obtain ⟨xs, ks, rfl, hk, hxl, hks, hall⟩ := hJ
  refine CallV.yield yhq rfl rfl ?_
  have hkc : k < cs.length := by omega
  have hrow : d.next[k].length = 2 ^ d.vars.toNat := hv.len _ (List.getElem_mem hlt)
  have hrl : d.next[k].length ≤ 64 := by
   rw [hrow]; have := hv.v6; have := hv.v0
   exact Nat.le_trans (Nat.pow_le_pow_right (by omega) (show d.vars.toNat ≤ 6 by omega)) (by decide)
  have hks9 : ks.length < 1000000 := by
   have h1 := dd_length ((keysD d cs).take k)
   have h2 : ((keysD d cs).take k).length ≤ d.next.length := by rw [List.length_take]; simp [keysD]; omega
   rw [hks]; omega
  have hto : ∀ j (hj : j < d.next[k].length), 0 ≤ d.next[k][j] ∧ d.next[k][j].toNat < cs.length := fun j hj => by have := hv.ok _ (List.getElem_mem hlt) _ (List.getElem_mem hj); omega
  have hck : cs[k] < 10000 := hc9 _ (List.getElem_mem hkc)
  have hr9 : ∀ x ∈ rowK cs d.next[k], x < 10000 := rowK_lt hc9
  refine T.s (T.rg (TO.qa rfl (TO.nl (T.rg (TO.qa rfl (TO.nl (T.block (T.s (T.nilRow 5 1 ?_)))))))))
  refine T.rg (TO.q (q_lb 6 uT37 rfl rfl rfl rfl) (TO.qm rfl (TO.q (q_ix (i := k) uT37 inf3 rfl rfl (Sl.o hcs)) (TO.q (q_ld uT3 rfl rfl (Sl.o hcs) nats_get) ?_))))
  have hk26 := CallT.under (B := [oI b7 37 [(.slice (aD b6) d.next.length d.next.length)], rowI (aD b6) d.next.length 3 1 (nats xs), oI b5 154 [(.func (.func 142) #[] #[(.pointer (aD b4))])], oI b4 71 [(.map (some m3))], mapI str (fun n : Nat => Value.int .i64 (n : Int)) m3 ks.zipIdx, oI b2 37 [(.slice cb d.next.length cc)], oI b1 25 [(vI d.vars), (vI d.start), (.slice nb d.next.length nc), (.slice fb d.final.length fc)]]) (O := [rowI none 0 5 1 (cells8 []), oI b7 37 [(.slice (aD b6) d.next.length d.next.length)], rowI (aD b6) d.next.length 3 1 (nats xs), oI b5 154 [(.func (.func 142) #[] #[(.pointer (aD b4))])], oI b4 71 [(.map (some m3))], mapI str (fun n : Nat => Value.int .i64 (n : Int)) m3 ks.zipIdx, oI b2 37 [(.slice cb d.next.length cc)], oI b1 25 [(vI d.vars), (vI d.start), (.slice nb d.next.length nc), (.slice fb d.final.length fc)]]) (appF w none 0 0 0 cs[k] [] rfl (Nat.lt_trans hck (by decide)) (by omega)) (Sub.pick [0, 0, 0, 0, 0, 0, 0, 0] rfl)
  refine TO.l rfl (l_call ent143 hk26 rfl ?_)
  clear hk26
  rintro v O' ⟨A1, rfl, kb, kc, rfl, rfl⟩
  refine TO.qa rfl (TO.nl (T.s (T.s (T.rg (TO.qm rfl (TO.q (q_len uT37 rfl) (TO.qm rfl (TO.nl (T.block ?_)))))))))
  refine T.loop (fun (j : Nat) ρ O => ∃ (kb : Option Addr) (kc m : Nat), O = [rowI kb kc 5 1 (cells8 (keyK cs[k] (List.take j (rowK cs d.next[k])))), oI b7 37 [(.slice (aD b6) d.next.length d.next.length)], rowI (aD b6) d.next.length 3 1 (nats xs), oI b5 154 [(.func (.func 142) #[] #[(.pointer (aD b4))])], oI b4 71 [(.map (some m3))], mapI str (fun n : Nat => Value.int .i64 (n : Int)) m3 ks.zipIdx, oI b2 37 [(.slice cb d.next.length cc)], oI b1 25 [(vI d.vars), (vI d.start), (.slice nb d.next.length nc), (.slice fb d.final.length fc)]] ∧ j ≤ d.next[k].length ∧ m = (keyK cs[k] (List.take j (rowK cs d.next[k]))).length ∧ Heads [(0, (.agg #[(vI d.vars), (vI d.start), (.slice nb d.next.length nc), (.slice fb d.final.length fc)])), (1, (.slice cb d.next.length cc)), (2, (.pointer (aD b1))), (3, (.pointer (aD b2))), (4, nS), (5, (.pointer (aD b4))), (6, (.pointer (aD b5))), (7, (.pointer (aD b7))), (8, vI (k : Int)), (9, (.slice vb d.next[k].length vc)), (10, (.slice kb m kc)), (27, (.slice vb d.next[k].length vc)), (28, vI (d.next[k].length : Int)), (29, vI (j : Int))] ρ) (fun j => d.next[k].length - j) 0 ?_ ?_
  ·refine ⟨kb, kc, _, ?_, Nat.zero_le _, ?_, (.of rfl)⟩
   ·rw [show keyK cs[k] (List.take 0 (rowK cs d.next[k])) = [] ++ Lib.decDigits cs[k] by simp [keyK, tailK]]
    rfl
   ·simp [keyK, tailK]
  rintro j ρ O ⟨kb, kc, m, rfl, hj, hm, hH⟩
  obtain ⟨ρ0, rfl⟩ := hH.elim
  clear hH
  have hm9 : m ≤ 324 := by
   have := keyK_len hck (fun x hx => hr9 x (List.mem_of_mem_take hx) : ∀ x ∈ List.take j (rowK cs d.next[k]), x < 10000)
   rw [List.length_take] at this; omega
  refine T.s (T.rg (TO.q (q_lss rfl rfl) (TO.nl (T.s (T.condP rfl (fun hc => ?_) (fun hc => ?_))))))
  ·have hlt30 : j < d.next[k].length := by omega
   have htj := (hto j hlt30).2
   refine T.skip (T.s (T.block (T.s (T.rg (TO.q (q_ix (i := j) uT37 inf3 rfl rfl (Sl.o s1)) (TO.q (q_ld uT3 rfl rfl (Sl.o s1) ints_get) (TO.qa rfl (TO.nl ?_))))))))
   refine T.draws [oI b2 37 [(.slice cb d.next.length cc)]] [(0, 0), (3, 0), (4, 0), (5, 0), (6, 0), (1, 1), (2, 1), (7, 2), (8, 2)] mixed (by kernel_rfl) (Sub.pick [6] rfl) (fun _ _ _ h => h) ?_
   refine DO.q rfl (q_move rfl) (DO.q rfl (q_lb 0 uT37 rfl rfl rfl rfl) (DO.q rfl (q_move rfl) (DO.q rfl (q_ixz (i := d.next[k][j]) uT37 inf3 rfl rfl (Sl.o hcs) (hto j hlt30).1 (hcl ▸ (hto j hlt30).2) (by rw [List.length_map]; exact (hto j hlt30).2)) (DO.q rfl (q_ld uT3 rfl rfl (Sl.o hcs) (nats_get (hto j hlt30).2)) ?_))))
   refine DO.loud rfl rfl (l_build1 (v := .int .u8 32) uT46 inf5 rfl rfl rfl (fun b8 => ⟨Sub.pick [7] rfl, ?_⟩))
   refine DO.loud rfl rfl (l_append 1 uT46 uT46 inf5 rfl rfl rfl rfl (by rw [List.length_map, ← hm, Nat.mul_one]) (by decide) (Src.row (j := 0) rfl (by simp)) (by simp [oneB]) (by omega) (by decide) (by decide) (fun b9 c10 => ⟨Sub.pick [7] rfl, ?_⟩))
   have hk40 := CallT.under (B := [rowI (aD b8) 1 5 1 [.int .u8 32], oI b7 37 [(.slice (aD b6) d.next.length d.next.length)], rowI (aD b6) d.next.length 3 1 (nats xs), oI b5 154 [(.func (.func 142) #[] #[(.pointer (aD b4))])], oI b4 71 [(.map (some m3))], mapI str (fun n : Nat => Value.int .i64 (n : Int)) m3 ks.zipIdx, oI b2 37 [(.slice cb d.next.length cc)], oI b1 25 [(vI d.vars), (vI d.start), (.slice nb d.next.length nc), (.slice fb d.final.length fc)]]) (O := [rowI (aD b8) 1 5 1 [.int .u8 32], rowI b9 c10 5 1 ((cells8 (keyK cs[k] (List.take j (rowK cs d.next[k])))) ++ [.int .u8 32]), oI b7 37 [(.slice (aD b6) d.next.length d.next.length)], rowI (aD b6) d.next.length 3 1 (nats xs), oI b5 154 [(.func (.func 142) #[] #[(.pointer (aD b4))])], oI b4 71 [(.map (some m3))], mapI str (fun n : Nat => Value.int .i64 (n : Int)) m3 ks.zipIdx, oI b2 37 [(.slice cb d.next.length cc)], oI b1 25 [(vI d.vars), (vI d.start), (.slice nb d.next.length nc), (.slice fb d.final.length fc)]]) (appF w b9 c10 c10 (m + 1) cs[d.next[k][j].toNat] (keyK cs[k] (List.take j (rowK cs d.next[k])) ++ [32]) (by rw [List.length_append, ← hm]; rfl) (Nat.lt_trans (hc9 _ (List.getElem_mem (hto j hlt30).2)) (by decide)) (by omega)) (by rw [cells8_snoc]; exact (Sub.pick [1, 0, 0, 0, 0, 0, 0, 0, 0] rfl))
   refine DO.last rfl rfl (l_call ent143 hk40 rfl ?_)
   clear hk40
   rintro v O' ⟨A1, rfl, kb3, kc3, rfl, rfl⟩
   refine DO.sub (O' := [rowI kb3 kc3 5 1 (cells8 (keyK cs[k] (List.take j (rowK cs d.next[k])) ++ [32] ++ Lib.decDigits cs[d.next[k][j].toNat])), oI b7 37 [(.slice (aD b6) d.next.length d.next.length)], rowI (aD b6) d.next.length 3 1 (nats xs), oI b5 154 [(.func (.func 142) #[] #[(.pointer (aD b4))])], oI b4 71 [(.map (some m3))], mapI str (fun n : Nat => Value.int .i64 (n : Int)) m3 ks.zipIdx, oI b2 37 [(.slice cb d.next.length cc)], oI b1 25 [(vI d.vars), (vI d.start), (.slice nb d.next.length nc), (.slice fb d.final.length fc)]]) (Sub.pick [0, 1, 1, 1, 1, 1, 1, 1] rfl) ?_
   refine DO.last rfl rfl (LT.oq rfl rfl (q_assign rfl) ?_)
   refine DO.done ?_
   refine T.rg (TO.q (q_inc rfl rfl (by omega)) (TO.qm rfl (TO.nl ?_)))
   have hst := keyK_row (a := cs[k]) hlt30 (hto j hlt30).2
   refine ⟨j + 1, by omega, kb3, kc3, _, by rw [hst], by omega, ?_, (.of rfl)⟩
   rw [hst, List.length_append, List.length_append, ← hm]; rfl
  have hge30 : ¬ j < d.next[k].length := by omega
  refine T.exit ?_
  have hjf : j = d.next[k].length := by omega
  have hfull : List.take j (rowK cs d.next[k]) = rowK cs d.next[k] := List.take_of_length_le (by simp [rowK]; omega)
  have hKE : keyD d cs k = keyK cs[k] (rowK cs d.next[k]) := keyD_eq hlt hkc
  refine T.draws [rowI kb kc 5 1 (cells8 (keyK cs[k] (List.take j (rowK cs d.next[k])))), oI b7 37 [(.slice (aD b6) d.next.length d.next.length)], rowI (aD b6) d.next.length 3 1 (nats xs), oI b5 154 [(.func (.func 142) #[] #[(.pointer (aD b4))])], oI b4 71 [(.map (some m3))], oI b2 37 [(.slice cb d.next.length cc)], oI b1 25 [(vI d.vars), (vI d.start), (.slice nb d.next.length nc), (.slice fb d.final.length fc)]] [(0, 0), (1, 0), (2, 0), (3, 0), (4, 0), (5, 1), (6, 0), (7, 2)] mixed (by kernel_rfl) (Sub.pick [0, 0, 0, 0, 0, 1, 1] rfl) (fun _ _ _ h => h) ?_
  refine DO.q rfl (q_lb 1 uT37 rfl rfl rfl rfl) (DO.q rfl (q_move rfl) (DO.q rfl (q_lb 3 uT154 rfl rfl rfl rfl) (DO.q rfl (q_move rfl) (DO.q rfl (q_b2s (l := keyK cs[k] (List.take j (rowK cs d.next[k]))) uT46 uT9 uT5 rfl (mG 0 rfl) hm.symm) ?_))))
  have hk47 := CallV.of_fn (first := []) (args := [str (keyK cs[k] (List.take j (rowK cs d.next[k])))]) (caps := [(.pointer (aD b4))]) ent142 (CallT.under (B := [rowI kb kc 5 1 (cells8 (keyK cs[k] (List.take j (rowK cs d.next[k])))), oI b7 37 [(.slice (aD b6) d.next.length d.next.length)], rowI (aD b6) d.next.length 3 1 (nats xs), oI b5 154 [(.func (.func 142) #[] #[(.pointer (aD b4))])], oI b2 37 [(.slice cb d.next.length cc)], oI b1 25 [(vI d.vars), (vI d.start), (.slice nb d.next.length nc), (.slice fb d.final.length fc)]]) (O := [rowI kb kc 5 1 (cells8 (keyK cs[k] (List.take j (rowK cs d.next[k])))), oI b7 37 [(.slice (aD b6) d.next.length d.next.length)], rowI (aD b6) d.next.length 3 1 (nats xs), oI b5 154 [(.func (.func 142) #[] #[(.pointer (aD b4))])], oI b4 71 [(.map (some m3))], mapI str (fun n : Nat => Value.int .i64 (n : Int)) m3 ks.zipIdx, oI b2 37 [(.slice cb d.next.length cc)], oI b1 25 [(vI d.vars), (vI d.start), (.slice nb d.next.length nc), (.slice fb d.final.length fc)]]) (give w b4 m3 ks (keyK cs[k] (List.take j (rowK cs d.next[k]))) hks9) (Sub.pick [4, 4, 0, 0, 0, 0, 0, 0] rfl))
  refine DO.loud rfl rfl (l_callG hk47 rfl rfl ?_)
  clear hk47
  rintro v O' ⟨A1, rfl, rfl, rfl⟩
  refine ⟨Sub.pick [2, 2, 2, 2, 0, 1, 1] rfl, ?_⟩
  refine DO.sub (O' := [rowI kb kc 5 1 (cells8 (keyK cs[k] (List.take j (rowK cs d.next[k])))), oI b7 37 [(.slice (aD b6) d.next.length d.next.length)], rowI (aD b6) d.next.length 3 1 (nats xs), oI b5 154 [(.func (.func 142) #[] #[(.pointer (aD b4))])], oI b4 71 [(.map (some m3))], mapI str (fun n : Nat => Value.int .i64 (n : Int)) m3 ((add ks (keyK cs[k] (List.take j (rowK cs d.next[k])))).zipIdx), oI b2 37 [(.slice cb d.next.length cc)], oI b1 25 [(vI d.vars), (vI d.start), (.slice nb d.next.length nc), (.slice fb d.final.length fc)]]) (Sub.pick [2, 2, 2, 2, 0, 0, 0, 0] rfl) ?_
  refine DO.q rfl (q_ix (i := k) uT37 inf3 rfl rfl (rowO (mG 2 rfl))) ?_
  refine DO.last rfl rfl (l_st (j := k) (v := vI ((ix (keyK cs[k] (List.take j (rowK cs d.next[k]))) (add ks (keyK cs[k] (List.take j (rowK cs d.next[k])))) : Nat) : Int)) (vs := [(vI ((ix (keyK cs[k] (List.take j (rowK cs d.next[k]))) (add ks (keyK cs[k] (List.take j (rowK cs d.next[k])))) : Nat) : Int))]) (cs := nats xs) 2 inf3 rfl rfl rfl rfl rfl (by simp) rfl (by first | (simp; omega) | (simp_all; omega)) ?_)
  refine DO.sub (O' := [rowI kb kc 5 1 (cells8 (keyK cs[k] (List.take j (rowK cs d.next[k])))), oI b7 37 [(.slice (aD b6) d.next.length d.next.length)], rowI (aD b6) d.next.length 3 1 (nats (xs.set k (ix (keyK cs[k] (List.take j (rowK cs d.next[k]))) (add ks (keyK cs[k] (List.take j (rowK cs d.next[k]))))))), oI b5 154 [(.func (.func 142) #[] #[(.pointer (aD b4))])], oI b4 71 [(.map (some m3))], mapI str (fun n : Nat => Value.int .i64 (n : Int)) m3 ((add ks (keyK cs[k] (List.take j (rowK cs d.next[k])))).zipIdx), oI b2 37 [(.slice cb d.next.length cc)], oI b1 25 [(vI d.vars), (vI d.start), (.slice nb d.next.length nc), (.slice fb d.final.length fc)]]) (by rw [show putL (nats xs) k [(vI ((ix (keyK cs[k] (List.take j (rowK cs d.next[k]))) (add ks (keyK cs[k] (List.take j (rowK cs d.next[k])))) : Nat) : Int))] = nats (xs.set k (ix (keyK cs[k] (List.take j (rowK cs d.next[k]))) (add ks (keyK cs[k] (List.take j (rowK cs d.next[k])))))) from by simp [putL]]; exact Sub.of (List.Sublist.refl _)) ?_
  refine DO.sub (O' := [oI b7 37 [(.slice (aD b6) d.next.length d.next.length)], rowI (aD b6) d.next.length 3 1 (nats (xs.set k (ix (keyK cs[k] (List.take j (rowK cs d.next[k]))) (add ks (keyK cs[k] (List.take j (rowK cs d.next[k]))))))), oI b5 154 [(.func (.func 142) #[] #[(.pointer (aD b4))])], oI b4 71 [(.map (some m3))], mapI str (fun n : Nat => Value.int .i64 (n : Int)) m3 ((add ks (keyK cs[k] (List.take j (rowK cs d.next[k])))).zipIdx), oI b2 37 [(.slice cb d.next.length cc)], oI b1 25 [(vI d.vars), (vI d.start), (.slice nb d.next.length nc), (.slice fb d.final.length fc)]]) (Sub.pick [1, 1, 1, 1, 1, 1, 1] rfl) ?_
  refine DO.done ?_
  refine .inl ⟨rfl, xs.set k (ix (keyK cs[k] (List.take j (rowK cs d.next[k]))) (add ks (keyK cs[k] (List.take j (rowK cs d.next[k]))))), add ks (keyK cs[k] (List.take j (rowK cs d.next[k]))), rfl, by omega, by simp [hxl], ?_, ?_⟩
  ·rw [keysD_take hlt, dd_snoc, ← hks, hKE, hfull]
  ·intro s hs
   by_cases e : s = k
   ·subst e; rw [List.getElem?_set_self (by omega), hKE, hfull]
   ·rw [List.getElem?_set_ne (fun h => e h.symm), hall s (by omega)]
    refine congrArg some (ix_prefix (add_prefix _ _) ?_).symm
    rw [hks]; exact mem_dd.2 (keyD_mem (by omega) (by omega))
 ·refine ⟨List.replicate d.next.length 0, [], ?_, Nat.zero_le _, by simp, by simp [dd], fun s hs => absurd hs (by omega)⟩
  simp
 rintro v O' (⟨xs, ks, rfl, hk, hxl, hks, hall⟩ | hF)
 rotate_left
 ·exact hF.elim
 refine ⟨none, _, rfl, ?_⟩
 refine T.s (T.rg (TO.q (q_lb 0 uT37 rfl rfl rfl rfl) (TO.qa rfl (TO.nl (T.ret (Res.drop ?_))))))
 refine Res.one (.slice (aD b6) d.next.length d.next.length) Tryz.results120 rfl ?_
 have hx : xs = refineF d cs := by
  apply List.ext_getElem?
  intro s
  by_cases hs : s < d.next.length
  ·rw [hall s hs, hks, List.take_of_length_le (by simp [keysD])]; simp [refineF, keysD, hs]
  ·rw [List.getElem?_eq_none (by omega), List.getElem?_eq_none (by simp [refineF, keysD]; omega)]
 exact ⟨[rowI (aD b6) d.next.length 3 1 (nats xs)], (Sub.pick [1] rfl), _, _, rfl, by rw [hx]⟩
theorem beginC (w : World) [Tab Tryz.prog w] (d : DFA) (nb fb : Option Addr) (nc fc : Nat) (vs : List Value) (h : DfaAt w d nb vs fb) (hv : Valid d) :
  PureT Tryz.prog 119 [.agg (dfaCells d nb nc fb fc).toArray] w fun v N => ∃ b c, v = .slice b d.next.length c ∧ N = [rowI b c 3 1 (nats (beginF d))] := by
 refine CallT.enter func119 rfl ntmps119 rfl ?_
 have hn4 := hv.n4
 have hn0 := hv.n0
 have hfl := hv.fin
 refine T.s (T.rg (TO.l rfl (l_box (v := (.agg #[(vI d.vars), (vI d.start), (.slice nb d.next.length nc), (.slice fb d.final.length fc)])) (cs := [(vI d.vars), (vI d.start), (.slice nb d.next.length nc), (.slice fb d.final.length fc)]) rfl rfl (fun b1 => ?_))))
 refine TO.qa rfl (TO.nl (T.s (T.rg (TO.q (q_fa uT25 rfl inf22 rfl rfl) (TO.q (q_lb 0 uT22 rfl rfl rfl rfl) (TO.q (q_len uT22 rfl) (TO.l rfl (l_makeSlice (m := d.next.length) uT37 inf3 rfl rfl (by omega) (by omega) (fun b2 => ?_)))))))))
 refine TO.qa rfl (TO.nl (T.s (T.s (T.rg (TO.qm rfl (TO.q (q_len uT37 rfl) (TO.qm rfl (TO.nl (T.block ?_)))))))))
 refine T.loop (fun (k : Nat) ρ O => ∃ (xs : List Nat), O = [rowI (aD b2) d.next.length 3 1 (nats xs), oI b1 25 [(vI d.vars), (vI d.start), (.slice nb d.next.length nc), (.slice fb d.final.length fc)]] ∧ k ≤ d.next.length ∧ xs.length = d.next.length ∧ (∀ s, s < k → xs[s]? = some (if d.final.getD s false ≠ d.final.getD 0 false then 1 else 0)) ∧ (∀ s, k ≤ s → s < d.next.length → xs[s]? = some 0) ∧ Heads [(0, (.agg #[(vI d.vars), (vI d.start), (.slice nb d.next.length nc), (.slice fb d.final.length fc)])), (1, (.pointer (aD b1))), (2, nS), (3, (.slice (aD b2) d.next.length d.next.length)), (10, vI (d.next.length : Int)), (11, vI (k : Int))] ρ) (fun k => d.next.length - k) 0 ?_ ?_
 ·refine ⟨List.replicate d.next.length 0, by simp, Nat.zero_le _, by simp, fun s hs => absurd hs (by omega), fun s _ hs => by simp [hs], (.of rfl)⟩
 rintro k ρ O ⟨xs, rfl, hk, hxl, hdone, htodo, hH⟩
 obtain ⟨ρ0, rfl⟩ := hH.elim
 clear hH
 refine T.s (T.rg (TO.q (q_lss rfl rfl) (TO.nl (T.s (T.condP rfl (fun hc => ?_) (fun hc => ?_))))))
 ·have hlt12 : k < d.next.length := by omega
  have hkf : k < d.final.length := by omega
  have h0f : 0 < d.final.length := by omega
  have hkx : k < xs.length := by omega
  refine T.skip (T.s (T.block (T.s (T.rg (TO.qm rfl (TO.qa rfl (TO.nl (T.s ?_))))))))
  refine T.draws [oI b1 25 [(vI d.vars), (vI d.start), (.slice nb d.next.length nc), (.slice fb d.final.length fc)]] [(0, 0), (1, 0), (2, 0), (3, 0), (4, 0), (5, 0), (6, 0), (7, 0), (8, 0), (9, 0)] mixed (by kernel_rfl) (Sub.pick [1] rfl) (fun _ _ _ h => h) ?_
  refine DO.q rfl (q_fa uT25 rfl inf23 rfl rfl) (DO.q rfl (q_lb 0 uT23 rfl rfl rfl rfl) (DO.q rfl (q_move rfl) (DO.q rfl (q_ix (i := k) uT23 inf4 rfl rfl (Sl.o h.final)) (DO.q rfl (q_ld uT4 rfl rfl (Sl.o h.final) bools_get) (DO.q rfl (q_fa uT25 rfl inf23 rfl rfl) (DO.q rfl (q_lb 0 uT23 rfl rfl rfl rfl) (DO.q rfl (q_ix (i := 0) uT23 inf4 rfl rfl (Sl.o h.final)) (DO.q rfl (q_ld uT4 rfl rfl (Sl.o h.final) bools_get) (DO.q rfl (q_bneq uT4 rfl rfl) ?_)))))))))
  refine DO.done ?_
  refine T.condP (p := ¬ d.final[k] = d.final[0]) (congrArg Value.bool (by cases d.final[k] <;> cases d.final[0] <;> rfl)) (fun hc => ?_) (fun hc => ?_)
  ·refine T.rg ?_
   refine TO.qm rfl (TO.qm rfl (TO.q (q_ix (i := k) uT37 inf3 rfl rfl (rowO (mG 0 rfl))) (TO.l rfl (l_st (j := k) (v := vI 1) (vs := [(vI 1)]) (cs := nats xs) 0 inf3 rfl rfl rfl rfl rfl (by simp) rfl (by first | (simp; omega) | (simp_all; omega)) ?_))))
   refine TO.sub (O' := [rowI (aD b2) d.next.length 3 1 (nats (xs.set k 1)), oI b1 25 [(vI d.vars), (vI d.start), (.slice nb d.next.length nc), (.slice fb d.final.length fc)]]) (by rw [show putL (nats xs) k [(vI 1)] = nats (xs.set k 1) from by simp [putL]]; exact Sub.of (List.Sublist.refl _)) ?_
   refine TO.nl (T.rg (TO.q (q_inc rfl rfl (by omega)) (TO.qm rfl (TO.nl ?_))))
   refine ⟨k + 1, by omega, xs.set k 1, rfl, by omega, by simp [hxl], fun s hs => ?_, fun s h1 h2 => ?_, (.of rfl)⟩
   ·by_cases e : s = k
    ·subst e; rw [List.getElem?_set_self (by omega)]; simp [hkf, h0f, hc]
    ·rw [List.getElem?_set_ne (fun h => e h.symm)]; exact hdone s (by omega)
   ·rw [List.getElem?_set_ne (by omega)]; exact htodo s (by omega) h2
  refine T.skip (T.rg (TO.q (q_inc rfl rfl (by omega)) (TO.qm rfl (TO.nl ?_))))
  refine ⟨k + 1, by omega, xs, rfl, by omega, hxl, fun s hs => ?_, fun s h1 h2 => htodo s (by omega) h2, (.of rfl)⟩
  by_cases e : s = k
  ·subst e; rw [htodo _ (Nat.le_refl _) hlt12]; simp [hkf, h0f, Classical.not_not.1 hc]
  ·exact hdone s (by omega)
 have hge12 : ¬ k < d.next.length := by omega
 refine T.exit ?_
 refine T.s (T.rg (TO.qm rfl (TO.qa rfl (TO.nl (T.ret (Res.drop ?_))))))
 refine Res.one (.slice (aD b2) d.next.length d.next.length) Tryz.results119 rfl ?_
 have hx : xs = beginF d := by
  apply List.ext_getElem?
  intro s
  by_cases hs : s < d.next.length
  ·rw [hdone s (by omega)]; simp [beginF, hs]
  ·rw [List.getElem?_eq_none (by omega), List.getElem?_eq_none (by simp [beginF]; omega)]
 exact ⟨[rowI (aD b2) d.next.length 3 1 (nats xs)], (Sub.pick [0] rfl), _, _, rfl, by rw [hx]⟩
theorem slicesEqual (w : World) [Tab Tryz.prog w] (b1 b2 : Option Addr) (c1 c2 n : Nat) (xs ys : List Nat) (h1 : Sl w b1 (nats xs)) (h2 : Sl w b2 (nats ys)) (hx : xs.length = n) (hy : ys.length = n) (hb : n < 9223372036854775807) :
  PureT Tryz.prog 121 [.slice b1 n c1, .slice b2 n c2] w fun v N => v = .bool (decide (xs = ys)) ∧ N = [] := by
 refine CallT.enter func121 rfl ntmps121 rfl ?_
 refine T.s (T.rg (TO.qa rfl (TO.nl (T.s (T.s (T.rg (TO.qm rfl (TO.q (q_len uT37 rfl) (TO.qm rfl (TO.q (q_len uT37 rfl) (TO.q (q_neq rfl rfl) (TO.nl (T.condP rfl (fun hc => ?_) (fun hc => ?_))))))))))))))
 ·exact absurd hc (by omega)
 have hge10 : ¬ n ≠ n := by omega
 refine T.skip (T.s (T.s (T.rg (TO.qm rfl (TO.q (q_len uT37 rfl) (TO.qm rfl (TO.nl (T.block ?_))))))))
 refine T.loop (fun (k : Nat) ρ O => O = [] ∧ k ≤ n ∧ xs.take k = ys.take k ∧ Heads [(0, (.slice b1 n c1)), (1, (.slice b2 n c2)), (12, vI (n : Int)), (13, vI (k : Int))] ρ) (fun k => n - k) 0 ?_ ?_
 ·exact ⟨rfl, Nat.zero_le _, rfl, ⟨rfl, rfl, rfl, rfl, trivial⟩⟩
 rintro k ρ O ⟨rfl, hk, he, hH⟩
 obtain ⟨ρ0, rfl⟩ := hH.elim
 clear hH
 refine T.s (T.rg (TO.q (q_lss rfl rfl) (TO.nl (T.s (T.condP rfl (fun hc => ?_) (fun hc => ?_))))))
 ·have hlt14 : k < n := by omega
  have hkx : k < xs.length := by omega
  have hky : k < ys.length := by omega
  refine T.skip (T.s (T.block (T.s (T.rg (TO.qm rfl (TO.qa rfl (TO.nl (T.s ?_))))))))
  refine T.draws _ [(0, 0), (1, 0), (2, 0), (3, 0), (4, 0), (5, 0), (6, 0), (7, 0), (8, 0)] mixed (by kernel_rfl) (Sub.of (List.Sublist.refl _)) (fun _ _ _ h => h) ?_
  refine DO.q rfl (q_move rfl) (DO.q rfl (q_move rfl) (DO.q rfl (q_ix (i := k) uT37 inf3 rfl rfl (Sl.o h1)) (DO.q rfl (q_ld uT3 rfl rfl (Sl.o h1) nats_get) (DO.q rfl (q_move rfl) (DO.q rfl (q_move rfl) (DO.q rfl (q_ix (i := k) uT37 inf3 rfl rfl (Sl.o h2)) (DO.q rfl (q_ld uT3 rfl rfl (Sl.o h2) nats_get) (DO.q rfl (q_neq rfl rfl) ?_))))))))
  refine DO.done ?_
  refine T.condP (p := ¬ xs[k] = ys[k]) (congrArg Value.bool (decide_eq_decide.2 (by omega))) (fun hc => ?_) (fun hc => ?_)
  ·have hlt24 : xs[k] ≠ ys[k] := by omega
   refine T.s (T.rg (TO.qa rfl (TO.nl (T.ret ?_))))
   refine Res.one (.bool false) Tryz.results121 rfl ?_
   exact ⟨congrArg Value.bool (decide_eq_false (fun e => hc (by subst e; rfl))).symm, rfl⟩
  have hge24 : ¬ xs[k] ≠ ys[k] := by omega
  refine T.skip (T.rg (TO.q (q_inc rfl rfl (by omega)) (TO.qm rfl (TO.nl ?_))))
  refine ⟨k + 1, by omega, rfl, by omega, ?_, ⟨rfl, rfl, rfl, rfl, trivial⟩⟩
  rw [List.take_succ_eq_append_getElem hkx, List.take_succ_eq_append_getElem hky, he]
  exact congrArg _ (congrArg (fun z => [z]) (Classical.not_not.1 hc))
 have hge14 : ¬ k < n := by omega
 refine T.exit ?_
 refine T.s (T.rg (TO.qa rfl (TO.nl (T.ret ?_))))
 refine Res.one (.bool true) Tryz.results121 rfl ?_
 exact ⟨congrArg Value.bool (decide_eq_true (show xs = ys by rw [List.take_of_length_le (by omega), List.take_of_length_le (by omega)] at he; exact he)).symm, rfl⟩
theorem roundsBad (w : World) [Tab Tryz.prog w] (d : DFA) (nb fb : Option Addr) (nc fc : Nat) (vs : List Value) (h : DfaAt w d nb vs fb) (hb : d.next.length < 9223372036854775807) (hbr : ∀ r ∈ d.next, r.length < 9223372036854775807) (hbf : d.final.length < 9223372036854775807) (he : checkD d ≠ 0) (k : Int) :
  PureT Tryz.prog 98 [.agg (dfaCells d nb nc fb fc).toArray, vI k] w fun v N => v = .tuple #[nS, vI (checkD d : Int)] ∧ N = [] := by
 refine CallT.enter func98 rfl ntmps98 rfl ?_
 refine T.s (T.rg (TO.l rfl (l_box (v := (.agg #[(vI d.vars), (vI d.start), (.slice nb d.next.length nc), (.slice fb d.final.length fc)])) (cs := [(vI d.vars), (vI d.start), (.slice nb d.next.length nc), (.slice fb d.final.length fc)]) rfl rfl (fun b1 => ?_))))
 refine TO.qa rfl (TO.qa rfl (TO.nl (T.s (T.s (T.rg (TO.q (q_la 0 uT25 rfl inf25 rfl rfl rfl) ?_))))))
 have hk10 := fun (w1 : World) (hI : Inv w [oI b1 25 [(vI d.vars), (vI d.start), (.slice nb d.next.length nc), (.slice fb d.final.length fc)]] w1) => (haveI := tbz hI; subsetCheck w1 d nb fb nc fc vs (hI.dfa h) hb hbr hbf)
 refine TO.l rfl (l_call ent35 (CallT.op hk10) rfl ?_)
 clear hk10
 rintro v O' ⟨N, rfl, rfl, rfl⟩
 refine TO.qa rfl (TO.nl (T.s (T.rg (TO.qm rfl (TO.q (QT.toB (q_neq rfl rfl) (decide_eq_true (by omega))) (TO.nl ?_))))))
 refine T.cond1 rfl ?_
 refine T.s (T.rg (TO.qm rfl (TO.qa rfl (TO.qa rfl (TO.nl (T.ret (Res.drop ?_)))))))
 refine Res.two nS (vI (checkD d : Int)) Tryz.results98 rfl rfl ?_
 exact ⟨[], Sub.of (List.nil_sublist _), rfl, rfl⟩
theorem roundsOk (w : World) [Tab Tryz.prog w] (d : DFA) (nb fb : Option Addr) (nc fc : Nat) (vs : List Value) (h : DfaAt w d nb vs fb) (hv : Valid d) (hn : d.next.length < 10000) (k : Int) (hk9 : k ≤ 9223372036854775807) :
  PureT Tryz.prog 98 [.agg (dfaCells d nb nc fb fc).toArray, vI k] w fun v N => ∃ b c, v = .tuple #[.slice b d.next.length c, vI 0] ∧ N = [rowI b c 3 1 (nats (itF d k.toNat))] := by
 refine CallT.enter func98 rfl ntmps98 rfl ?_
 have he := checkD_zero.2 hv
 have hb : d.next.length < 9223372036854775807 := by omega
 have hbr : ∀ r ∈ d.next, r.length < 9223372036854775807 := hv.bound
 have hbf : d.final.length < 9223372036854775807 := by have := hv.fin; omega
 refine T.s (T.rg (TO.l rfl (l_box (v := (.agg #[(vI d.vars), (vI d.start), (.slice nb d.next.length nc), (.slice fb d.final.length fc)])) (cs := [(vI d.vars), (vI d.start), (.slice nb d.next.length nc), (.slice fb d.final.length fc)]) rfl rfl (fun b1 => ?_))))
 refine TO.qa rfl (TO.qa rfl (TO.nl (T.s (T.s (T.rg (TO.q (q_la 0 uT25 rfl inf25 rfl rfl rfl) ?_))))))
 have hk10 := fun (w1 : World) (hI : Inv w [oI b1 25 [(vI d.vars), (vI d.start), (.slice nb d.next.length nc), (.slice fb d.final.length fc)]] w1) => (haveI := tbz hI; subsetCheck w1 d nb fb nc fc vs (hI.dfa h) hb hbr hbf)
 refine TO.l rfl (l_call ent35 (CallT.op hk10) rfl ?_)
 clear hk10
 rintro v O' ⟨N, rfl, rfl, rfl⟩
 rw [he]
 refine TO.qa rfl (TO.nl (T.s (T.rg (TO.qm rfl (TO.q (q_neq rfl rfl) (TO.nl (T.cond0 rfl (T.skip (T.s (T.rg (TO.q (q_la 0 uT25 rfl inf25 rfl rfl rfl) ?_)))))))))))
 have hk15 := fun (w1 : World) (hI : Inv w [oI b1 25 [(vI d.vars), (vI d.start), (.slice nb d.next.length nc), (.slice fb d.final.length fc)]] w1) => (haveI := tbz hI; beginC w1 d nb fb nc fc vs (hI.dfa h) hv)
 refine TO.l rfl (l_call ent119 (CallT.op hk15) rfl ?_)
 clear hk15
 rintro v O' ⟨N, rfl, b0, c0, rfl, rfl⟩
 refine TO.qa rfl (TO.nl (T.s (T.s (T.rg (TO.qm rfl (TO.qm rfl (TO.nl (T.block ?_))))))))
 refine T.loop (fun (i : Nat) ρ O => ∃ (b : Option Addr) (c : Nat), O = [rowI b c 3 1 (nats (itF d i)), oI b1 25 [(vI d.vars), (vI d.start), (.slice nb d.next.length nc), (.slice fb d.final.length fc)]] ∧ i ≤ k.toNat ∧ Heads [(0, (.agg #[(vI d.vars), (vI d.start), (.slice nb d.next.length nc), (.slice fb d.final.length fc)])), (1, vI k), (2, (.pointer (aD b1))), (4, nS), (5, vI 0), (6, vI ((0 : Nat) : Int)), (7, (.slice b d.next.length c)), (16, vI k), (17, vI (i : Int))] ρ) (fun i => k.toNat - i) 0 ?_ ?_
 ·exact ⟨b0, c0, rfl, Nat.zero_le _, (.of rfl)⟩
 rintro i ρ O ⟨b, c, rfl, hki, hH⟩
 obtain ⟨ρ0, rfl⟩ := hH.elim
 clear hH
 refine T.s (T.rg (TO.q (q_lss rfl rfl) (TO.nl (T.s (T.condP rfl (fun hc => ?_) (fun hc => ?_))))))
 ·have hik : i < k.toNat := by omega
  refine T.skip (T.s (T.block (T.s (T.rg (TO.q (q_la 1 uT25 rfl inf25 rfl rfl rfl) (TO.qm rfl ?_))))))
  have hk21 := fun (w1 : World) (hI : Inv w [rowI b c 3 1 (nats (itF d i)), oI b1 25 [(vI d.vars), (vI d.start), (.slice nb d.next.length nc), (.slice fb d.final.length fc)]] w1) => (haveI := tbz hI; refineC w1 d nb fb nc fc vs (hI.dfa h) hv b c (itF d i) (hI.slOf (mG 0 rfl)) (itF_length d i) (itF_lt hn i))
  refine TO.l rfl (l_call ent120 (CallT.op hk21) rfl ?_)
  clear hk21
  rintro v O' ⟨N, rfl, b9, c9, rfl, rfl⟩
  refine TO.qa rfl (TO.nl (T.s (T.s (T.rg (TO.qm rfl (TO.qm rfl ?_))))))
  by_cases hst : refineF d (itF d i) = itF d i
  ·have hk24 := fun (w1 : World) (hI : Inv w [rowI b9 c9 3 1 (nats (refineF d (itF d i))), rowI b c 3 1 (nats (itF d i)), oI b1 25 [(vI d.vars), (vI d.start), (.slice nb d.next.length nc), (.slice fb d.final.length fc)]] w1) => (haveI := tbz hI; slicesEqual w1 b9 b c9 c d.next.length (refineF d (itF d i)) (itF d i) (hI.slOf (mG 0 rfl)) (hI.slOf (mG 1 rfl)) (itF_length d (i + 1)) (itF_length d i) (by omega))
   refine TO.l rfl (l_call ent121 (CallT.op hk24) rfl ?_)
   clear hk24
   rintro v O' ⟨N, rfl, rfl, rfl⟩
   rw [decide_eq_true hst]
   refine TO.nl ?_
   refine T.cond1 rfl ?_
   refine T.exit ?_
   refine T.s (T.rg (TO.qm rfl (TO.qa rfl (TO.qa rfl (TO.nl (T.ret (Res.drop ?_)))))))
   refine Res.two (.slice b d.next.length c) (vI 0) Tryz.results98 rfl rfl ?_
   have hx : itF d k.toNat = itF d i := itF_stable hst _ hki
   exact ⟨[rowI b c 3 1 (nats (itF d i))], (Sub.pick [1] rfl), _, _, rfl, by rw [hx]⟩
  have hk24 := fun (w1 : World) (hI : Inv w [rowI b9 c9 3 1 (nats (refineF d (itF d i))), rowI b c 3 1 (nats (itF d i)), oI b1 25 [(vI d.vars), (vI d.start), (.slice nb d.next.length nc), (.slice fb d.final.length fc)]] w1) => (haveI := tbz hI; slicesEqual w1 b9 b c9 c d.next.length (refineF d (itF d i)) (itF d i) (hI.slOf (mG 0 rfl)) (hI.slOf (mG 1 rfl)) (itF_length d (i + 1)) (itF_length d i) (by omega))
  refine TO.l rfl (l_call ent121 (CallT.op hk24) rfl ?_)
  clear hk24
  rintro v O' ⟨N, rfl, rfl, rfl⟩
  rw [decide_eq_false hst]
  refine TO.nl (T.cond0 rfl (T.skip (T.rg (TO.qm rfl (TO.qa rfl (TO.nl (T.rg (TO.q (q_inc rfl rfl (by omega)) (TO.qm rfl ?_)))))))))
  refine TO.sub (O' := [rowI b9 c9 3 1 (nats (refineF d (itF d i))), oI b1 25 [(vI d.vars), (vI d.start), (.slice nb d.next.length nc), (.slice fb d.final.length fc)]]) (Sub.pick [0, 1] rfl) ?_
  refine TO.nl ?_
  exact ⟨i + 1, by omega, b9, c9, rfl, by omega, (.of rfl)⟩
 refine T.exit ?_
 refine T.s (T.rg (TO.qm rfl (TO.qa rfl (TO.qa rfl (TO.nl (T.ret (Res.drop ?_)))))))
 refine Res.two (.slice b d.next.length c) (vI 0) Tryz.results98 rfl rfl ?_
 have hx : itF d k.toNat = itF d i := by rw [show k.toNat = i by omega]
 exact ⟨[rowI b c 3 1 (nats (itF d i))], (Sub.pick [0] rfl), _, _, rfl, by rw [hx]⟩
theorem classesBad (w : World) [Tab Tryz.prog w] (d : DFA) (nb fb : Option Addr) (nc fc : Nat) (vs : List Value) (h : DfaAt w d nb vs fb) (hb : d.next.length < 9223372036854775807) (hbr : ∀ r ∈ d.next, r.length < 9223372036854775807) (hbf : d.final.length < 9223372036854775807) (he : checkD d ≠ 0) :
  PureT Tryz.prog 72 [.agg (dfaCells d nb nc fb fc).toArray] w fun v N => v = .tuple #[nS, vI (checkD d : Int)] ∧ N = [] := by
 refine CallT.enter func72 rfl ntmps72 rfl ?_
 refine T.s (T.rg (TO.l rfl (l_box (v := (.agg #[(vI d.vars), (vI d.start), (.slice nb d.next.length nc), (.slice fb d.final.length fc)])) (cs := [(vI d.vars), (vI d.start), (.slice nb d.next.length nc), (.slice fb d.final.length fc)]) rfl rfl (fun b1 => ?_))))
 refine TO.qa rfl (TO.qa rfl (TO.nl (T.s (T.rg (TO.q (q_la 0 uT25 rfl inf25 rfl rfl rfl) (TO.q (q_fa uT25 rfl inf22 rfl rfl) (TO.q (q_lb 0 uT22 rfl rfl rfl rfl) (TO.q (q_len uT22 rfl) ?_))))))))
 have hk8 := fun (w1 : World) (hI : Inv w [oI b1 25 [(vI d.vars), (vI d.start), (.slice nb d.next.length nc), (.slice fb d.final.length fc)]] w1) => (haveI := tbz hI; roundsBad w1 d nb fb nc fc vs (hI.dfa h) hb hbr hbf he d.next.length)
 refine TO.l rfl (l_call ent98 (CallT.op hk8) rfl ?_)
 clear hk8
 rintro v O' ⟨N, rfl, rfl, rfl⟩
 refine TO.q (q_extract (vs := _) rfl rfl) (TO.q (q_extract (vs := _) rfl rfl) (TO.qa rfl (TO.qa rfl (TO.nl (T.ret (Res.drop ?_))))))
 refine Res.two nS (vI (checkD d : Int)) Tryz.results72 rfl rfl ?_
 exact ⟨[], Sub.of (List.nil_sublist _), rfl, rfl⟩
theorem classesOk (w : World) [Tab Tryz.prog w] (d : DFA) (nb fb : Option Addr) (nc fc : Nat) (vs : List Value) (h : DfaAt w d nb vs fb) (hv : Valid d) (hn : d.next.length < 10000) :
  PureT Tryz.prog 72 [.agg (dfaCells d nb nc fb fc).toArray] w fun v N => ∃ b c, v = .tuple #[.slice b d.next.length c, vI 0] ∧ N = [rowI b c 3 1 (nats (itF d d.next.length))] := by
 refine CallT.enter func72 rfl ntmps72 rfl ?_
 refine T.s (T.rg (TO.l rfl (l_box (v := (.agg #[(vI d.vars), (vI d.start), (.slice nb d.next.length nc), (.slice fb d.final.length fc)])) (cs := [(vI d.vars), (vI d.start), (.slice nb d.next.length nc), (.slice fb d.final.length fc)]) rfl rfl (fun b1 => ?_))))
 refine TO.qa rfl (TO.qa rfl (TO.nl (T.s (T.rg (TO.q (q_la 0 uT25 rfl inf25 rfl rfl rfl) (TO.q (q_fa uT25 rfl inf22 rfl rfl) (TO.q (q_lb 0 uT22 rfl rfl rfl rfl) (TO.q (q_len uT22 rfl) ?_))))))))
 have hk8 := fun (w1 : World) (hI : Inv w [oI b1 25 [(vI d.vars), (vI d.start), (.slice nb d.next.length nc), (.slice fb d.final.length fc)]] w1) => (haveI := tbz hI; roundsOk w1 d nb fb nc fc vs (hI.dfa h) hv hn d.next.length (by omega))
 refine TO.l rfl (l_call ent98 (CallT.op hk8) rfl ?_)
 clear hk8
 rintro v O' ⟨N, rfl, b, c, rfl, rfl⟩
 refine TO.q (q_extract (vs := _) rfl rfl) (TO.q (q_extract (vs := _) rfl rfl) (TO.qa rfl (TO.qa rfl (TO.nl (T.ret (Res.drop ?_))))))
 refine Res.two (.slice b d.next.length c) (vI 0) Tryz.results72 rfl rfl ?_
 exact ⟨[rowI b c 3 1 (nats (itF d d.next.length))], (Sub.pick [0] rfl), _, _, rfl, rfl⟩
end Go.Proofs.YtohkmggbfcnapaaGreatDoor


namespace Go.Proofs.YtohkmggbfcnapaaGreatDoor
open Go.Lx Go.RowKit _root_.Go.Proofs.Tryz
theorem visitHit (base : World) [Tab Tryz.prog base] (bx m : Nat) (ks : List (List UInt8)) (key : List UInt8) (hk : key ∈ ks) (hb : ks.length < 1000000) :
  CallT Tryz.prog base 123 [str key, .pointer (aD bx)] [objI bx (.cells #[.map (some m)] 71 (0, 0)), mapI str (fun n : Nat => Value.int .i64 (n : Int)) m ks.zipIdx] (fun v O' => v = vI ((ix key (add ks key) : Nat) : Int) ∧ O' = [objI bx (.cells #[.map (some m)] 71 (0, 0)), mapI str (fun n : Nat => Value.int .i64 (n : Int)) m (add ks key).zipIdx]) := by
 refine CallT.enter func123 rfl ntmps123 rfl ?_
 refine T.s (T.rg (TO.qa rfl (TO.nl (T.s (T.rg (TO.q (q_lb 0 uT71 rfl rfl rfl rfl) (TO.qm rfl (TO.q (QT.cast (q_lookupOk (a := key) uT71 inf3 (KeyOk.string uT9) rfl rfl (mG 1 rfl)) (v' := (.tuple #[vI ((ix key ks : Nat) : Int), .bool true])) (by rw [look_zip]; simp [hk])) (TO.qm rfl (TO.q (q_extract (vs := _) rfl rfl) (TO.q (q_extract (vs := _) rfl rfl) (TO.qa rfl (TO.qa rfl (TO.nl (T.s (T.s (T.rg (TO.qm rfl (TO.q (q_not rfl) (TO.nl ?_))))))))))))))))))))
 refine T.cond0 rfl (T.skip (T.s (T.rg (TO.qm rfl (TO.qa rfl (TO.nl (T.ret ?_)))))))
 refine Res.one (vI ((ix key ks : Nat) : Int)) Tryz.results123 rfl ?_
 have ha : add ks key = ks := if_pos hk
 rw [ha]; exact ⟨rfl, rfl⟩
theorem visitMiss (base : World) [Tab Tryz.prog base] (bx m : Nat) (ks : List (List UInt8)) (key : List UInt8) (hk : key ∉ ks) (hb : ks.length < 1000000) :
  CallT Tryz.prog base 123 [str key, .pointer (aD bx)] [objI bx (.cells #[.map (some m)] 71 (0, 0)), mapI str (fun n : Nat => Value.int .i64 (n : Int)) m ks.zipIdx] (fun v O' => v = vI ((ix key (add ks key) : Nat) : Int) ∧ O' = [objI bx (.cells #[.map (some m)] 71 (0, 0)), mapI str (fun n : Nat => Value.int .i64 (n : Int)) m (add ks key).zipIdx]) := by
 refine CallT.enter func123 rfl ntmps123 rfl ?_
 refine T.s (T.rg (TO.qa rfl (TO.nl (T.s (T.rg (TO.q (q_lb 0 uT71 rfl rfl rfl rfl) (TO.qm rfl (TO.q (QT.cast (q_lookupOk (a := key) uT71 inf3 (KeyOk.string uT9) rfl rfl (mG 1 rfl)) (v' := (.tuple #[vI 0, .bool false])) (by rw [look_zip]; simp [hk])) (TO.qm rfl (TO.q (q_extract (vs := _) rfl rfl) (TO.q (q_extract (vs := _) rfl rfl) (TO.qa rfl (TO.qa rfl (TO.nl (T.s (T.s (T.rg (TO.qm rfl (TO.q (q_not rfl) (TO.nl ?_))))))))))))))))))))
 refine T.cond1 rfl ?_
 refine T.s (T.rg (TO.q (q_lb 0 uT71 rfl rfl rfl rfl) (TO.q (QT.cast (q_lenMap uT71 rfl (mG 1 rfl)) (v' := vI ((ks.length : Nat) : Int)) (by simp)) (TO.qa rfl (TO.nl (T.rg (TO.q (q_lb 0 uT71 rfl rfl rfl rfl) (TO.qm rfl (TO.qm rfl (TO.l rfl (l_mapPut (a := key) (v := ks.length) 1 uT71 (KeyOk.string uT9) rfl rfl rfl rfl (by rw [zipIdx_fst]; exact hk) ?_)))))))))))
 refine TO.nl (T.s (T.rg (TO.qm rfl (TO.qa rfl (TO.nl (T.ret ?_))))))
 refine Res.one (vI ((ks.length : Nat) : Int)) Tryz.results123 rfl ?_
 have ha : add ks key = ks ++ [key] := if_neg hk
 rw [ha]
 refine ⟨by rw [ix_append_right hk]; simp [ix], ?_⟩
 rw [show (ks ++ [key]).zipIdx = ks.zipIdx ++ [(key, ks.length)] by rw [List.zipIdx_append]; simp]; rfl
theorem visit (base : World) [Tab Tryz.prog base] (bx m : Nat) (ks : List (List UInt8)) (key : List UInt8) (hb : ks.length < 1000000) :
  CallT Tryz.prog base 123 [str key, .pointer (aD bx)] [objI bx (.cells #[.map (some m)] 71 (0, 0)), mapI str (fun n : Nat => Value.int .i64 (n : Int)) m ks.zipIdx] (fun v O' => v = vI ((ix key (add ks key) : Nat) : Int) ∧ O' = [objI bx (.cells #[.map (some m)] 71 (0, 0)), mapI str (fun n : Nat => Value.int .i64 (n : Int)) m (add ks key).zipIdx]) := by
 by_cases hk : key ∈ ks
 ·exact visitHit base bx m ks key hk hb
 ·exact visitMiss base bx m ks key hk hb
theorem exploreC (base : World) [Tab Tryz.prog base] (tr : List UInt8 → Nat → List UInt8) (L B : Nat) (start : List UInt8) (fv : Value) (J : List (List UInt8) → List Lx.Item → Prop) (Good : List (List UInt8) → Prop) (hL : L ≤ 64) (hB : B ≤ 4096)
  (hn : ∀ (ks : List (List UInt8)) (s x : Nat) (O : List Lx.Item), s < ks.length → x < L → Good ks → J ks O → CallV Tryz.prog base fv [vI (s : Int), .int .u8 (x : Int)] O (fun v O' => v = str (tr (ks.getD s []) x) ∧ Good (add ks (tr (ks.getD s []) x)) ∧ J (add ks (tr (ks.getD s []) x)) O'))
  (hg : ∀ ks, Good ks → ks.length ≤ B) (O : List Lx.Item) (h0 : Good [start]) (hJ0 : J [start] O) :
  CallT Tryz.prog base 102 [vI (L : Int), vI (B : Int), str start, fv] O (fun v O' => ∃ b c qs N O1, v = .tuple #[.slice b N c, .bool true] ∧ O' = rowI b c 37 1 (vals qs) :: (itms 3 qs ++ O1) ∧ J (exN tr L start N) O1 ∧ Good (exN tr L start N) ∧ (exN tr L start N).length = N ∧ ExOk tr L (exN tr L start N) N (nums qs) ∧ ∀ i, i < N → i < (exN tr L start i).length) := by
 refine CallT.enter func102 rfl ntmps102 rfl ?_
 refine T.s (T.rg (TO.qa rfl (TO.qa rfl (TO.nl ?_))))
 refine T.scope ?_ (fun _ _ _ h => h)
 refine T.s (T.rg (TO.l rfl (l_makeMap str (fun n : Nat => Value.int .i64 (n : Int)) (fun m1 => ?_))))
 refine TO.qm rfl (TO.l rfl (l_mapInsert (a := start) (v := (0 : Nat)) 0 uT71 (KeyOk.string uT9) rfl rfl rfl rfl (by simp) ?_))
 refine TO.qm rfl (TO.l rfl (l_alloc inf71 rfl (fun b2 => ?_)))
 refine TO.l rfl (l_sb (v := (.map (some m1))) (vs := [(.map (some m1))]) 0 inf71 rfl rfl rfl rfl rfl rfl (by simp [putL]) ?_)
 refine TO.nl (T.s (T.rg (TO.q (q_makeFunc) (TO.qa rfl (TO.nl (T.s ?_))))))
 refine T.label ?_
 refine T.s (T.s (T.rg (TO.qa rfl (TO.nl (T.block (T.nilRow 37 1 ?_))))))
 refine T.loop (fun (s : Nat) ρ O => ∃ (ks : List (List UInt8)) (qs : List Rec) (ob : Option Addr) (oc : Nat) (O1 : List Lx.Item), O = ([rowI ob oc 37 1 (vals qs), oI b2 71 [(.map (some m1))], mapI str (fun n : Nat => Value.int .i64 (n : Int)) m1 ks.zipIdx] ++ (itms 3 qs ++ O1)) ∧ exN tr L start s = ks ∧ Good ks ∧ J ks O1 ∧ ExOk tr L ks s (nums qs) ∧ (∀ i, i < s → i < (exN tr L start i).length) ∧ Heads [(0, vI (L : Int)), (1, vI (B : Int)), (2, str start), (3, fv), (8, (.slice ob s oc)), (9, .bool false), (10, (.pointer (aD b2))), (11, (.func (.func 123) #[] #[(.pointer (aD b2))])), (12, vI (s : Int))] ρ) (fun s => B - s) 0 ?_ ?_
 ·exact ⟨[start], [], none, 0, O, rfl, rfl, h0, hJ0, ⟨rfl, by simp, fun i hi => absurd hi (by omega), fun i hi => absurd hi (by omega)⟩, fun i hi => absurd hi (by omega), (.of rfl)⟩
 rintro s ρ O ⟨ks, qs, ob, oc, O1, rfl, hks, hG, hJ, hE, hen, hH⟩
 obtain ⟨ρ0, rfl⟩ := hH.elim
 clear hH
 have hgl := hg _ hG
 have hql : qs.length = s := by have := hE.len; simpa using this
 refine T.s (T.s (T.rg (TO.qm rfl (TO.q (q_lb 1 uT71 rfl rfl rfl rfl) (TO.q (QT.cast (q_lenMap uT71 rfl (mG 2 rfl)) (v' := vI (ks.length : Int)) (by rw [List.length_zipIdx])) (TO.q (q_lss rfl rfl) (TO.nl (T.condP rfl (fun hc => ?_) (fun hc => ?_)))))))))
 ·have hlt22 : s < ks.length := by omega
  refine T.skip (T.s (T.block (T.s (T.rg (TO.qm rfl (TO.l rfl (l_makeSlice (m := L) uT37 inf3 rfl rfl (by omega) (by omega) (fun b3 => ?_))))))))
  refine TO.qa rfl (TO.nl (T.s (T.s (T.rg (TO.qm rfl (TO.q (q_len uT37 rfl) (TO.qm rfl (TO.nl (T.block ?_)))))))))
  refine T.loop (fun (x : Nat) ρ O => ∃ (ks2 : List (List UInt8)) (ys : List Int) (O2 : List Lx.Item), O = ([rowI (aD b3) L 3 1 (ints ys), rowI ob oc 37 1 (vals qs), oI b2 71 [(.map (some m1))], mapI str (fun n : Nat => Value.int .i64 (n : Int)) m1 ks2.zipIdx] ++ (itms 3 qs ++ O2)) ∧ x ≤ L ∧ ys.length = L ∧ Good ks2 ∧ J ks2 O2 ∧ ks2 = ((List.range x).map (tr (ks.getD s []))).foldl add ks ∧ (∀ i, i < x → ys[i]? = some ((ix (tr (ks.getD s []) i) ks2 : Nat) : Int)) ∧ Heads [(0, vI (L : Int)), (1, vI (B : Int)), (2, str start), (3, fv), (8, (.slice ob s oc)), (9, .bool false), (10, (.pointer (aD b2))), (11, (.func (.func 123) #[] #[(.pointer (aD b2))])), (12, vI (s : Int)), (13, (.slice (aD b3) L L)), (28, vI (L : Int)), (29, vI (x : Int))] ρ) (fun x => L - x) 0 ?_ ?_
  ·exact ⟨ks, List.replicate L 0, O1, by simp, Nat.zero_le _, by simp, hG, hJ, rfl, fun i hi => absurd hi (by omega), (.of rfl)⟩
  rintro x ρ O ⟨ks2, ys, O2, rfl, hx, hyl, hG2, hJ2, hk2, hys, hH⟩
  obtain ⟨ρ0, rfl⟩ := hH.elim
  clear hH
  have hgl2 := hg _ hG2
  have hpre : ks <+: ks2 := hk2 ▸ foldl_prefix _ _
  have hks2 : ks2.getD s [] = ks.getD s [] := prefix_getD hpre hlt22
  have hple := hpre.length_le
  refine T.s (T.rg (TO.q (q_lss rfl rfl) (TO.nl (T.s (T.condP rfl (fun hc => ?_) (fun hc => ?_))))))
  ·have hlt30 : x < L := by omega
   refine T.skip (T.s (T.block (T.s (T.rg (TO.qm rfl (TO.qa rfl (TO.nl (T.s (T.rg (TO.qm rfl (TO.qm rfl (TO.qm rfl (TO.qm rfl (TO.qm rfl (TO.qm rfl (TO.q (q_conv_id uT3 uT5 rfl (show IntKind.u8.wrap (x : Int) = (x : Int) by unfold IntKind.wrap; simp [IntKind.bits, IntKind.signed]; omega)) ?_))))))))))))))))
   have hk39 := CallV.under (B := [rowI (aD b3) L 3 1 (ints ys), rowI ob oc 37 1 (vals qs), oI b2 71 [(.map (some m1))], mapI str (fun n : Nat => Value.int .i64 (n : Int)) m1 ks2.zipIdx] ++ itms 3 qs) (O := ([rowI (aD b3) L 3 1 (ints ys), rowI ob oc 37 1 (vals qs), oI b2 71 [(.map (some m1))], mapI str (fun n : Nat => Value.int .i64 (n : Int)) m1 ks2.zipIdx] ++ (itms 3 qs ++ O2))) (hn ks2 s x O2 (by omega) hlt30 hG2 hJ2) (Sub.ca [])
   refine TO.l rfl (l_callG hk39 rfl rfl ?_)
   clear hk39
   rintro v O' ⟨O3, rfl, rfl, hG3, hJ3⟩
   refine TO.sub (O' := ([rowI (aD b3) L 3 1 (ints ys), rowI ob oc 37 1 (vals qs), oI b2 71 [(.map (some m1))], mapI str (fun n : Nat => Value.int .i64 (n : Int)) m1 ks2.zipIdx] ++ (itms 3 qs ++ O3))) (Sub.ca []) ?_
   rw [hks2] at hG3 hJ3 ⊢
   have hk40 := CallV.of_fn (first := []) (args := [str (tr (ks.getD s []) x)]) (caps := [(.pointer (aD b2))]) ent123 (CallT.under (B := [rowI (aD b3) L 3 1 (ints ys), rowI ob oc 37 1 (vals qs)] ++ (itms 3 qs ++ O3)) (O := ([rowI (aD b3) L 3 1 (ints ys), rowI ob oc 37 1 (vals qs), oI b2 71 [(.map (some m1))], mapI str (fun n : Nat => Value.int .i64 (n : Int)) m1 ks2.zipIdx] ++ (itms 3 qs ++ O3))) (visit base b2 m1 ks2 (tr (ks.getD s []) x) (by have := hg _ hG2; omega)) (Sub.pickR [2, 2, 0, 0] [rowI (aD b3) L 3 1 (ints ys), rowI ob oc 37 1 (vals qs), oI b2 71 [(.map (some m1))], mapI str (fun n : Nat => Value.int .i64 (n : Int)) m1 ks2.zipIdx] (itms 3 qs ++ O3) rfl rfl))
   refine TO.l rfl (l_callG hk40 rfl rfl ?_)
   clear hk40
   rintro v O' ⟨A1, rfl, rfl, rfl⟩
   refine TO.sub (O' := ([rowI (aD b3) L 3 1 (ints ys), rowI ob oc 37 1 (vals qs), oI b2 71 [(.map (some m1))], mapI str (fun n : Nat => Value.int .i64 (n : Int)) m1 ((add ks2 (tr (ks.getD s []) x)).zipIdx)] ++ (itms 3 qs ++ O3))) (Sub.pickR [2, 2, 0, 0] [oI b2 71 [(.map (some m1))], mapI str (fun n : Nat => Value.int .i64 (n : Int)) m1 ((add ks2 (tr (ks.getD s []) x)).zipIdx), rowI (aD b3) L 3 1 (ints ys), rowI ob oc 37 1 (vals qs)] (itms 3 qs ++ O3) rfl rfl) ?_
   refine TO.q (q_ix (i := x) uT37 inf3 rfl rfl (rowO (mG 0 rfl))) (TO.l rfl (l_st (j := x) (v := vI ((ix (tr (ks.getD s []) x) (add ks2 (tr (ks.getD s []) x)) : Nat) : Int)) (vs := [(vI ((ix (tr (ks.getD s []) x) (add ks2 (tr (ks.getD s []) x)) : Nat) : Int))]) (cs := ints ys) 0 inf3 rfl rfl rfl rfl rfl (by simp) rfl (by first | (simp; omega) | (simp_all; omega)) ?_))
   refine TO.sub (O' := ([rowI (aD b3) L 3 1 (ints (ys.set x ((ix (tr (ks.getD s []) x) (add ks2 (tr (ks.getD s []) x)) : Nat) : Int))), rowI ob oc 37 1 (vals qs), oI b2 71 [(.map (some m1))], mapI str (fun n : Nat => Value.int .i64 (n : Int)) m1 ((add ks2 (tr (ks.getD s []) x)).zipIdx)] ++ (itms 3 qs ++ O3))) (by rw [show putL (ints ys) x [(vI ((ix (tr (ks.getD s []) x) (add ks2 (tr (ks.getD s []) x)) : Nat) : Int))] = ints (ys.set x ((ix (tr (ks.getD s []) x) (add ks2 (tr (ks.getD s []) x)) : Nat) : Int)) from by simp [putL]]; exact Sub.of (List.Sublist.refl _)) ?_
   refine TO.nl (T.s (T.rg (TO.q (q_lb 2 uT71 rfl rfl rfl rfl) (TO.q (QT.cast (q_lenMap uT71 rfl (mG 3 rfl)) (v' := vI ((add ks2 (tr (ks.getD s []) x)).length : Int)) (by rw [List.length_zipIdx])) (TO.qm rfl (TO.q (q_gtr rfl rfl) (TO.nl (T.condP rfl (fun hc => ?_) (fun hc => ?_)))))))))
   ·exact absurd hc (by have := hg _ hG3; omega)
   have hge45 : ¬ (add ks2 (tr (ks.getD s []) x)).length > B := by omega
   refine T.skip (T.rg (TO.q (q_inc rfl rfl (by omega)) (TO.qm rfl (TO.nl ?_))))
   have hmm : ∀ y, y < x → tr (ks.getD s []) y ∈ ks2 := fun y hy => by rw [hk2, mem_foldl_add]; exact .inr (List.mem_map_of_mem (List.mem_range.2 hy))
   refine ⟨x + 1, by omega, add ks2 (tr (ks.getD s []) x), ys.set x ((ix (tr (ks.getD s []) x) (add ks2 (tr (ks.getD s []) x)) : Nat) : Int), O3, rfl, by omega, by simp [hyl], hG3, hJ3, by rw [foldl_add_snoc, ← hk2], fun i hi => ?_, (.of rfl)⟩
   by_cases e : i = x
   ·subst e; rw [List.getElem?_set_self (by omega)]
   ·rw [List.getElem?_set_ne (fun h => e h.symm), hys i (by omega), ix_prefix (add_prefix _ _) (hmm i (by omega))]
  have hge30 : ¬ x < L := by omega
  refine T.exit ?_
  refine T.rg (TO.qm rfl (TO.qm rfl (TO.l rfl (l_build1 (v := (.slice (aD b3) L L)) uT22 inf37 rfl rfl rfl (fun b4 => ?_)))))
  refine TO.l rfl (l_append 2 uT22 uT22 inf37 rfl rfl rfl rfl (by simp [hql]) (by decide) (Src.row (j := 0) rfl (by simp)) (by simp [oneB]) (by omega) (by decide) (by decide) (fun b5 c6 => ?_))
  refine TO.qa rfl (TO.nl ?_)
  refine T.sub (O' := [rowI b5 c6 37 1 (vals (qs ++ [⟨(aD b3), L, ys⟩])), oI b2 71 [(.map (some m1))], mapI str (fun n : Nat => Value.int .i64 (n : Int)) m1 ks2.zipIdx] ++ (itms 3 (qs ++ [⟨(aD b3), L, ys⟩]) ++ O2)) (by
   rw [show vals (qs ++ [⟨(aD b3), L, ys⟩]) = (vals qs) ++ [(.slice (aD b3) L L)] by simp [Rec.val, hyl]]
   exact Sub.cnt [rowI (aD b4) 1 37 1 [(.slice (aD b3) L L)]] (by intro a; simp only [List.set_cons_zero, List.set_cons_succ, itms, List.map_append, List.map_cons, List.map_nil, Rec.itm, cnt_append, cnt_cons, cnt_nil, vI, nS, aD, List.cons_append, List.nil_append, List.append_assoc, List.append_nil] <;> omega)) ?_
  refine T.rg (TO.qm rfl (TO.q (q_inc rfl rfl (by omega)) (TO.qa rfl (TO.nl ?_))))
  have hxL : x = L := by omega
  have hmm : ∀ y, y < L → tr (ks.getD s []) y ∈ ks2 := fun y hy => by rw [hk2, mem_foldl_add]; exact .inr (List.mem_map_of_mem (List.mem_range.2 (by omega)))
  have hyr : ys = exRow tr L ks2 s := by
   apply List.ext_getElem?
   intro i
   by_cases hi : i < L
   ·rw [hys i (by omega)]; simp only [exRow, hks2]; simp [hi]
   ·rw [List.getElem?_eq_none (by omega), List.getElem?_eq_none (by simp [exRow]; omega)]
  have hE2 : ExOk tr L ks2 (s + 1) (nums (qs ++ [⟨(aD b3), L, ys⟩])) := by
   have := hE.snoc hpre hlt22 hyr (by rw [hks2]; exact hmm)
   simpa [nums] using this
  have hen2 : ∀ i, i < s + 1 → i < (exN tr L start i).length := fun i hi => by
   by_cases e : i = s
   ·subst e; rw [hks]; exact hlt22
   ·exact hen i (by omega)
  exact ⟨s + 1, by omega, ks2, qs ++ [⟨(aD b3), L, ys⟩], b5, c6, O2, rfl, by rw [exN, hks, hk2, hxL], hG2, hJ2, hE2, hen2, (.of rfl)⟩
 have hge22 : ¬ s < ks.length := by omega
 refine T.exit ?_
 refine T.s (T.rg (TO.qm rfl (TO.q (q_lb 1 uT71 rfl rfl rfl rfl) (TO.q (QT.cast (q_lenMap uT71 rfl (mG 2 rfl)) (v' := vI (ks.length : Int)) (by rw [List.length_zipIdx])) (TO.qm rfl (TO.q (QT.toB (q_leq rfl rfl) (decide_eq_true (by have := hg _ hG; omega))) (TO.qa rfl (TO.qa rfl (TO.nl (T.ret (Res.drop ?_)))))))))))
 refine Res.two (.slice ob s oc) (.bool true) Tryz.results102 rfl rfl ?_
 have hN : ks.length = s := by have := hE.le; omega
 exact ⟨_, (Sub.pickR [0] [rowI ob oc 37 1 (vals qs), oI b2 71 [(.map (some m1))], mapI str (fun n : Nat => Value.int .i64 (n : Int)) m1 ks.zipIdx] (itms 3 qs ++ O1) rfl rfl), ob, oc, qs, s, O1, rfl, rfl, by rw [hks]; exact hJ, by rw [hks]; exact hG, by rw [hks]; exact hN, by rw [hks]; exact hE, hen⟩
theorem nextC (base : World) [Tab Tryz.prog base] (d : DFA) (nb fb : Option Addr) (nc fc : Nat) (vs : List Value) (h : DfaAt base d nb vs fb) (hv : Valid d) (hn : d.next.length < 10000) (b1 b2 b3 : Nat) (os : List Nat) (sn : List Bool) (ob sb : Option Addr) (oc sc sc2 s x : Nat) (hs : s < os.length) (hx : x < 2 ^ d.vars.toNat) (hos : ∀ o ∈ os, o < d.next.length) (hnd : os.Nodup) (hsl : sn.length = d.next.length) (hsn : ∀ t, t < d.next.length → sn[t]? = some (decide (t ∈ os))) :
  CallT Tryz.prog base 100 ([vI (s : Int), .int .u8 (x : Int)] ++ [.pointer (aD b1), .pointer (aD b2), .pointer (aD b3)])
   [oI b1 25 [(vI d.vars), (vI d.start), (.slice nb d.next.length nc), (.slice fb d.final.length fc)], oI b2 37 [(.slice ob os.length oc)], rowI ob oc 3 1 (nats os), oI b3 23 [(.slice sb d.next.length sc)], rowI sb sc2 4 1 (bools sn)]
   (fun v O' => v = str (Lib.decDigits (toN d os[s] x)) ∧ ∃ ob' oc' sn', sn'.length = d.next.length ∧ (∀ t, t < d.next.length → sn'[t]? = some (decide (t ∈ add os (toN d os[s] x)))) ∧ O' = [oI b1 25 [(vI d.vars), (vI d.start), (.slice nb d.next.length nc), (.slice fb d.final.length fc)], oI b2 37 [(.slice ob' ((add os (toN d os[s] x)).length) oc')], rowI ob' oc' 3 1 (nats (add os (toN d os[s] x))), oI b3 23 [(.slice sb d.next.length sc)], rowI sb sc2 4 1 (bools sn')]) := by
 refine CallT.enter func100 rfl ntmps100 rfl ?_
 obtain ⟨o, hso⟩ : ∃ o, os[s] = o := ⟨_, rfl⟩
 have hso2 : os[s]? = some o := by rw [List.getElem?_eq_getElem hs, hso]
 have ho : o < d.next.length := hso ▸ hos _ (List.getElem_mem hs)
 obtain ⟨t, ht⟩ : ∃ t, toN d o x = t := ⟨_, rfl⟩
 obtain ⟨htn, _, hxr, hdx⟩ := hv.toN_lt ho hx
 rw [ht] at htn hdx
 rw [hso, ht]
 have hvl := h.rows.1
 have hw := hv.width
 obtain ⟨vb, vc, g1, s1⟩ := h.rows.get ho
 have hxt : (ints d.next[o])[x]? = some (vI ((t : Nat) : Int)) := by rw [ints_get hxr, hdx]
 have hol := nodup_bound hnd hos
 have hst := hsn t htn
 have htl : t < sn.length := by omega
 refine T.s (T.rg (TO.qa rfl (TO.nl (T.s ?_))))
 refine T.draws _ [(0, 0), (1, 0), (2, 0), (3, 0), (4, 0), (5, 0), (6, 0), (7, 0), (8, 0), (9, 0), (10, 0), (11, 0)] mixed (drawF_ok (by kernel_rfl)) (Sub.of (List.Sublist.refl _)) (fun _ _ _ h => h) ?_
 refine DO.q rfl (q_fa uT25 rfl inf22 rfl rfl) (DO.q rfl (q_lb 0 uT22 rfl rfl rfl rfl) (DO.q rfl (q_lb 1 uT37 rfl rfl rfl rfl) (DO.q rfl (q_move rfl) ?_)))
 refine DO.q rfl (q_ix (i := s) uT37 inf3 rfl rfl (rowO (mG 2 rfl)) hs (by rw [List.length_map]; exact hs)) (DO.q rfl (q_ld uT3 rfl rfl (rowO (mG 2 rfl)) (show (nats os)[s]? = some (vI ((o : Nat) : Int)) by rw [List.getElem?_map, hso2]; rfl)) (DO.q rfl (q_ix (i := o) uT22 inf37 rfl rfl (Sl.o h.outer) ho) (DO.q rfl (q_ld uT37 rfl rfl (Sl.o h.outer) g1) ?_)))
 refine DO.q rfl (q_move rfl) (DO.q rfl (q_ix (i := x) uT37 inf3 rfl rfl (Sl.o s1) hxr (by rw [List.length_map]; exact hxr)) (DO.q rfl (q_ld uT3 rfl rfl (Sl.o s1) hxt) (DO.q rfl (q_assign rfl) ?_)))
 refine DO.done ?_
 refine T.s (T.s (T.rg ?_))
 refine TO.q (q_lb 3 uT23 rfl rfl rfl rfl) (TO.qm rfl (TO.q (q_ix (i := t) uT23 inf4 rfl rfl (rowO (mG 4 rfl)) htn (by rw [List.length_map]; exact htl)) (TO.q (q_ld uT4 rfl rfl (rowO (mG 4 rfl)) (show (bools sn)[t]? = some (.bool (decide (t ∈ os))) by rw [List.getElem?_map, hst]; rfl)) ?_)))
 refine TO.q (q_not rfl) (TO.nl (T.condP (p := t ∉ os) (congrArg Value.bool (by simp)) (fun hc => ?_) (fun hc => ?_)))
 ·refine T.draws2 [oI b1 25 [(vI d.vars), (vI d.start), (.slice nb d.next.length nc), (.slice fb d.final.length fc)], oI b3 23 [(.slice sb d.next.length sc)], rowI sb sc2 4 1 (bools sn)] [oI b2 37 [(.slice ob os.length oc)]] [(0, 0), (1, 0), (2, 3), (3, 0), (4, 1), (5, 1), (6, 4), (7, 0), (8, 2)] mixed (by kernel_rfl) (Sub.pick [0, 2, 2] rfl) (Sub.pick [1] rfl) (fun _ _ _ h => h) ?_
  refine DO.q rfl (q_lb 1 uT23 rfl rfl rfl rfl) (DO.q rfl (q_move rfl) ?_)
  refine DO.quiet2 rfl (q_lb 0 uT37 rfl rfl rfl rfl) ?_
  refine DO.q rfl (q_move rfl) ?_
  refine DO.loud2 rfl rfl (l_build1 (v := vI ((t : Nat) : Int)) uT37 inf3 rfl rfl rfl (fun z1 => ⟨Sub.pick [1, 3, 3] rfl, Sub.pick [2] rfl, ?_⟩))
  refine DO.loud2 rfl rfl (l_append 3 uT37 uT37 inf3 rfl rfl rfl rfl (by simp) (by decide) (Src.row (j := 0) rfl (by simp)) (by simp [oneB]) (by omega) (by decide) (by decide) (fun z2 zc3 => ⟨Sub.pick [1, 3, 3] rfl, Sub.pick [2] rfl, ?_⟩))
  refine DO.last2 rfl rfl (l_sb (v := (.slice z2 (os.length + 1) zc3)) (vs := [(.slice z2 (os.length + 1) zc3)]) 2 inf37 rfl rfl rfl rfl rfl rfl (by simp [putL]) ⟨Sub.pick [1, 3, 3] rfl, ?_⟩)
  refine DO.q rfl (q_ix (i := t) uT23 inf4 rfl rfl (rowO (mG 2 rfl)) htn (by rw [List.length_map]; exact htl)) ?_
  refine DO.last rfl rfl (l_st (j := t) (v := .bool true) (vs := [(.bool true)]) (cs := bools sn) 5 inf4 rfl rfl rfl rfl rfl (by simp) rfl (by first | (simp; omega) | (simp_all; omega)) ?_)
  refine DO.sub (O' := [rowI (aD z1) 1 3 1 [vI ((t : Nat) : Int)], oI b1 25 [(vI d.vars), (vI d.start), (.slice nb d.next.length nc), (.slice fb d.final.length fc)], oI b2 37 [(.slice z2 (os.length + 1) zc3)], rowI z2 zc3 3 1 ((nats os) ++ [vI ((t : Nat) : Int)]), oI b3 23 [(.slice sb d.next.length sc)], rowI sb sc2 4 1 (bools (sn.set t true))]) (by rw [show putL (bools sn) t [(.bool true)] = bools (sn.set t true) from by simp [putL]]; exact Sub.of (List.Sublist.refl _)) ?_
  refine DO.done ?_
  refine T.s (T.rg (TO.qm rfl ?_))
  have hk33 := fun (w1 : World) (hI : Inv base [rowI (aD z1) 1 3 1 [vI ((t : Nat) : Int)], oI b1 25 [(vI d.vars), (vI d.start), (.slice nb d.next.length nc), (.slice fb d.final.length fc)], oI b2 37 [(.slice z2 (os.length + 1) zc3)], rowI z2 zc3 3 1 ((nats os) ++ [vI ((t : Nat) : Int)]), oI b3 23 [(.slice sb d.next.length sc)], rowI sb sc2 4 1 (bools (sn.set t true))] w1) => (haveI := tbz hI; itoaF w1 t (by omega))
  refine TO.l rfl (l_call ent101 (CallT.op hk33) rfl ?_)
  clear hk33
  rintro v O' ⟨N, rfl, rfl, rfl⟩
  refine TO.qa rfl (TO.nl (T.ret (Res.drop ?_)))
  refine Res.one (str (Lib.decDigits t)) Tryz.results100 rfl ?_
  have ha : add os t = os ++ [t] := if_neg hc
  refine ⟨[oI b1 25 [(vI d.vars), (vI d.start), (.slice nb d.next.length nc), (.slice fb d.final.length fc)], oI b2 37 [(.slice z2 (os.length + 1) zc3)], rowI z2 zc3 3 1 ((nats os) ++ [vI ((t : Nat) : Int)]), oI b3 23 [(.slice sb d.next.length sc)], rowI sb sc2 4 1 (bools (sn.set t true))], (Sub.pick [1, 1, 1, 1, 1] rfl), rfl, z2, zc3, sn.set t true, by simp [hsl], fun t2 ht2 => ?_, ?_⟩
  ·rw [ha]
   by_cases e : t2 = t
   ·subst e; rw [List.getElem?_set_self htl]; simp
   ·rw [List.getElem?_set_ne (fun h => e h.symm), hsn t2 ht2]; simp [e]
  ·rw [ha, List.length_append, show nats (os ++ [t]) = nats os ++ [vI ((t : Nat) : Int)] from List.map_append]; rfl
 refine T.skip (T.s (T.rg (TO.qm rfl ?_)))
 have hk33 := fun (w1 : World) (hI : Inv base [oI b1 25 [(vI d.vars), (vI d.start), (.slice nb d.next.length nc), (.slice fb d.final.length fc)], oI b2 37 [(.slice ob os.length oc)], rowI ob oc 3 1 (nats os), oI b3 23 [(.slice sb d.next.length sc)], rowI sb sc2 4 1 (bools sn)] w1) => (haveI := tbz hI; itoaF w1 t (by omega))
 refine TO.l rfl (l_call ent101 (CallT.op hk33) rfl ?_)
 clear hk33
 rintro v O' ⟨N, rfl, rfl, rfl⟩
 refine TO.qa rfl (TO.nl (T.ret (Res.drop ?_)))
 refine Res.one (str (Lib.decDigits t)) Tryz.results100 rfl ?_
 have ha : add os t = os := if_pos (Classical.not_not.1 hc)
 refine ⟨[oI b1 25 [(vI d.vars), (vI d.start), (.slice nb d.next.length nc), (.slice fb d.final.length fc)], oI b2 37 [(.slice ob os.length oc)], rowI ob oc 3 1 (nats os), oI b3 23 [(.slice sb d.next.length sc)], rowI sb sc2 4 1 (bools sn)], (Sub.pick [0, 0, 0, 0, 0] rfl), rfl, ob, oc, sn, hsl, fun t2 ht2 => ?_, ?_⟩
 ·rw [ha]; exact hsn t2 ht2
 ·rw [ha]
def RenJ (d : DFA) (nb fb : Option Addr) (nc fc b1 bB bC bD : Nat) (ks : List (List UInt8)) (O : List Lx.Item) : Prop :=
 ∃ (os : List Nat) (sn : List Bool) (ob : Option Addr) (oc : Nat), ks = os.map Lib.decDigits ∧ O = [objI b1 (.cells (List.toArray [(vI d.vars), (vI d.start), (.slice nb d.next.length nc), (.slice fb d.final.length fc)]) 25 (0, 0)), objI bC (.cells (List.toArray [(.slice ob os.length oc)]) 37 (0, 0)), rowI ob oc 3 1 (nats os), objI bD (.cells (List.toArray [(.slice (aD bB) d.next.length d.next.length)]) 23 (0, 0)), rowI (aD bB) d.next.length 4 1 (bools sn)] ∧ os.Nodup ∧ (∀ o ∈ os, o < d.next.length) ∧ sn.length = d.next.length ∧ (∀ t, t < d.next.length → sn[t]? = some (decide (t ∈ os)))
set_option maxRecDepth 20000 in
theorem nextV (base : World) [Tab Tryz.prog base] (d : DFA) (nb fb : Option Addr) (nc fc : Nat) (vs : List Value) (h : DfaAt base d nb vs fb) (hv : Valid d) (hn : d.next.length < 10000) (b1 bB bC bD : Nat) (ks : List (List UInt8)) (s x : Nat) (O : List Lx.Item) (hs : s < ks.length) (hx : x < 2 ^ d.vars.toNat) (hJ : RenJ d nb fb nc fc b1 bB bC bD ks O) :
  CallV Tryz.prog base (.func (.func 100) #[] #[.pointer (aD b1), .pointer (aD bC), .pointer (aD bD)]) [vI (s : Int), .int .u8 (x : Int)] O
   (fun v O' => v = str (trD d (ks.getD s []) x) ∧ (add ks (trD d (ks.getD s []) x)).length ≤ d.next.length ∧ RenJ d nb fb nc fc b1 bB bC bD (add ks (trD d (ks.getD s []) x)) O') := by
 obtain ⟨os, sn, ob, oc, rfl, rfl, hnd, hos, hsl, hsn⟩ := hJ
 have hs' : s < os.length := by simpa using hs
 have e : (os.map Lib.decDigits).getD s [] = Lib.decDigits os[s] := by simp [hs']
 have e2 : trD d ((os.map Lib.decDigits).getD s []) x = Lib.decDigits (toN d os[s] x) := by rw [e, trD, undec_dec]
 have hT := (hv.toN_lt (hos _ (List.getElem_mem hs')) hx).1
 have hos2 : ∀ o ∈ add os (toN d os[s] x), o < d.next.length := fun o ho => by
  rcases mem_add.1 ho with ho | ho
  ·exact hos o ho
  ·rw [ho]; exact hT
 refine CallV.mono (CallV.of_fn (first := []) (caps := [.pointer (aD b1), .pointer (aD bC), .pointer (aD bD)]) ent100 (nextC base d nb fb nc fc vs h hv hn b1 bC bD os sn ob (aD bB) oc d.next.length d.next.length s x hs' hx hos hnd hsl hsn)) ?_
 rintro v O' ⟨rfl, ob', oc', sn', h1, h2, rfl⟩
 rw [e2, ← map_add dec_inj]
 refine ⟨rfl, ?_, add os (toN d os[s] x), sn', ob', oc', rfl, rfl, add_nodup hnd, hos2, h1, h2⟩
 rw [List.length_map]; exact nodup_bound (add_nodup hnd) hos2
end Go.Proofs.YtohkmggbfcnapaaGreatDoor


namespace Go.Proofs.YtohkmggbfcnapaaGreatDoor
open Go.Lx Go.RowKit _root_.Go.Proofs.Tryz
theorem renumOk (w : World) [Tab Tryz.prog w] (d : DFA) (nb fb : Option Addr) (nc fc : Nat) (vs : List Value) (h : DfaAt w d nb vs fb) (hv : Valid d) (hn : d.next.length < 10000) :
  PureT Tryz.prog 74 [.agg (dfaCells d nb nc fb fc).toArray] w fun v N => ∃ nb' nc' fb' fc' qs, v = .tuple #[.agg (dfaCells (renum d) nb' nc' fb' fc').toArray, vI 0] ∧ N = [rowI nb' nc' 37 1 (vals qs), rowI fb' fc' 4 1 (bools (renum d).final)] ++ itms 3 qs ∧ nums qs = (renum d).next := by
 refine CallT.enter func74 rfl ntmps74 rfl ?_
 have he := checkD_zero.2 hv
 have hb : d.next.length < 9223372036854775807 := by omega
 have hbr : ∀ r ∈ d.next, r.length < 9223372036854775807 := hv.bound
 have hbf : d.final.length < 9223372036854775807 := by have := hv.fin; omega
 have hn0 := hv.n0
 have hs0 := hv.s0
 have hs1 := hv.s1
 have hsn : d.start.toNat < d.next.length := by omega
 refine T.s (T.rg (TO.l rfl (l_box (v := (.agg #[(vI d.vars), (vI d.start), (.slice nb d.next.length nc), (.slice fb d.final.length fc)])) (cs := [(vI d.vars), (vI d.start), (.slice nb d.next.length nc), (.slice fb d.final.length fc)]) rfl rfl (fun z1 => ?_))))
 refine TO.l rfl (l_alloc inf25 rfl (fun z2 => ?_))
 refine TO.qa rfl (TO.nl (T.s (T.s (T.rg (TO.q (q_la 1 uT25 rfl inf25 rfl rfl rfl) ?_)))))
 have hk11 := fun (w1 : World) (hI : Inv w [oI z2 25 [(vI 0), (vI 0), nS, nS], oI z1 25 [(vI d.vars), (vI d.start), (.slice nb d.next.length nc), (.slice fb d.final.length fc)]] w1) => (haveI := tbz hI; subsetCheck w1 d nb fb nc fc vs (hI.dfa h) hb hbr hbf)
 refine TO.l rfl (l_call ent35 (CallT.op hk11) rfl ?_)
 clear hk11
 rintro v O' ⟨N, rfl, rfl, rfl⟩
 rw [he]
 refine TO.qa rfl (TO.nl (T.s (T.rg (TO.qm rfl (TO.q (q_neq rfl rfl) (TO.nl (T.cond0 rfl (T.skip ?_))))))))
 refine T.cut (fun ρ O => ∃ (bA bB bC bD : Nat), O = [oI bC 37 [(.slice (aD bA) 1 1)], oI bD 23 [(.slice (aD bB) d.next.length d.next.length)], rowI (aD bA) 1 3 1 [(vI d.start)], rowI (aD bB) d.next.length 4 1 (List.replicate d.next.length (.bool false)), oI z2 25 [(vI 0), (vI 0), nS, nS], oI z1 25 [(vI d.vars), (vI d.start), (.slice nb d.next.length nc), (.slice fb d.final.length fc)]] ∧ Heads [(0, (.agg #[(vI d.vars), (vI d.start), (.slice nb d.next.length nc), (.slice fb d.final.length fc)])), (1, (.pointer (aD z1))), (2, (.pointer (aD z2))), (3, vI 0), (4, vI ((0 : Nat) : Int)), (5, (.pointer (aD bC))), (6, (.pointer (aD bD)))] ρ) ?_ ?_
 ·refine T.tree [oI z1 25 [(vI d.vars), (vI d.start), (.slice nb d.next.length nc), (.slice fb d.final.length fc)]] 11 mixed rfl (Sub.pick [1] rfl) (fun _ _ _ h => h) ?_
  refine RO.quietT 0 rfl (by kernel_rfl) (q_fa uT25 rfl inf3 rfl rfl) ?_
  refine RO.quietT 1 rfl (by kernel_rfl) (q_lb 0 uT3 rfl rfl rfl rfl) ?_
  refine RO.quietT 3 rfl (by kernel_rfl) (q_fa uT25 rfl inf22 rfl rfl) ?_
  refine RO.quietT 4 rfl (by kernel_rfl) (q_lb 0 uT22 rfl rfl rfl rfl) ?_
  refine RO.quietT 5 rfl (by kernel_rfl) (q_len uT22 rfl) ?_
  refine RO.fork [2, 6, 7, 8] (by kernel_rfl) rfl ⟨⟨_, rfl, rfl, l_build1 (v := (vI d.start)) uT37 inf3 rfl rfl rfl (fun bA => ⟨Sub.pick [2] rfl, ?_⟩)⟩, ⟨_, rfl, rfl, l_makeSlice (m := d.next.length) uT23 inf4 rfl rfl (by omega) (by omega) (fun bB => ⟨Sub.pick [2] rfl, ?_⟩)⟩, ⟨_, rfl, rfl, l_alloc inf37 rfl (fun bC => ⟨Sub.pick [2] rfl, ?_⟩)⟩, ⟨_, rfl, rfl, l_alloc inf23 rfl (fun bD => ⟨Sub.pick [2] rfl, ?_⟩)⟩, trivial⟩
  ·refine RO.fork [6, 7, 8] (by kernel_rfl) rfl ⟨⟨_, rfl, rfl, l_makeSlice (m := d.next.length) uT23 inf4 rfl rfl (by omega) (by omega) (fun bB => ⟨Sub.pick [3] rfl, ?_⟩)⟩, ⟨_, rfl, rfl, l_alloc inf37 rfl (fun bC => ⟨Sub.pick [3] rfl, ?_⟩)⟩, ⟨_, rfl, rfl, l_alloc inf23 rfl (fun bD => ⟨Sub.pick [3] rfl, ?_⟩)⟩, trivial⟩
   ·refine RO.fork [7, 8] (by kernel_rfl) rfl ⟨⟨_, rfl, rfl, l_alloc inf37 rfl (fun bC => ⟨Sub.pick [4] rfl, ?_⟩)⟩, ⟨_, rfl, rfl, l_alloc inf23 rfl (fun bD => ⟨Sub.pick [4] rfl, ?_⟩)⟩, trivial⟩
    ·refine RO.fork [8] (by kernel_rfl) rfl ⟨⟨_, rfl, rfl, l_alloc inf23 rfl (fun bD => ⟨Sub.pick [5] rfl, ?_⟩)⟩, trivial⟩
     refine RO.fork [9] (by kernel_rfl) rfl ⟨⟨_, rfl, rfl, l_sb (v := (.slice (aD bA) 1 1)) (vs := [(.slice (aD bA) 1 1)]) 1 inf37 rfl rfl rfl rfl rfl rfl (by simp [putL]) ⟨Sub.pick [5] rfl, ?_⟩⟩, trivial⟩
     refine RO.fork [10] (by kernel_rfl) rfl ⟨⟨_, rfl, rfl, l_sb (v := (.slice (aD bB) d.next.length d.next.length)) (vs := [(.slice (aD bB) d.next.length d.next.length)]) 0 inf23 rfl rfl rfl rfl rfl rfl (by simp [putL]) ⟨Sub.pick [5] rfl, ?_⟩⟩, trivial⟩
     exact RO.fin (by kernel_rfl) ⟨bA, bB, bC, bD, rfl, (.of rfl)⟩ (Sub.pick [1, 0, 1, 0, 0, 0] rfl)
    refine RO.fork [7] (by kernel_rfl) rfl ⟨⟨_, rfl, rfl, l_alloc inf37 rfl (fun bC => ⟨Sub.pick [5] rfl, ?_⟩)⟩, trivial⟩
    refine RO.fork [9] (by kernel_rfl) rfl ⟨⟨_, rfl, rfl, l_sb (v := (.slice (aD bA) 1 1)) (vs := [(.slice (aD bA) 1 1)]) 0 inf37 rfl rfl rfl rfl rfl rfl (by simp [putL]) ⟨Sub.pick [5] rfl, ?_⟩⟩, trivial⟩
    refine RO.fork [10] (by kernel_rfl) rfl ⟨⟨_, rfl, rfl, l_sb (v := (.slice (aD bB) d.next.length d.next.length)) (vs := [(.slice (aD bB) d.next.length d.next.length)]) 1 inf23 rfl rfl rfl rfl rfl rfl (by simp [putL]) ⟨Sub.pick [5] rfl, ?_⟩⟩, trivial⟩
    exact RO.fin (by kernel_rfl) ⟨bA, bB, bC, bD, rfl, (.of rfl)⟩ (Sub.pick [0, 0, 1, 0, 0, 0] rfl)
   ·refine RO.fork [6, 8] (by kernel_rfl) rfl ⟨⟨_, rfl, rfl, l_makeSlice (m := d.next.length) uT23 inf4 rfl rfl (by omega) (by omega) (fun bB => ⟨Sub.pick [4] rfl, ?_⟩)⟩, ⟨_, rfl, rfl, l_alloc inf23 rfl (fun bD => ⟨Sub.pick [4] rfl, ?_⟩)⟩, trivial⟩
    ·refine RO.fork [8] (by kernel_rfl) rfl ⟨⟨_, rfl, rfl, l_alloc inf23 rfl (fun bD => ⟨Sub.pick [5] rfl, ?_⟩)⟩, trivial⟩
     refine RO.fork [9] (by kernel_rfl) rfl ⟨⟨_, rfl, rfl, l_sb (v := (.slice (aD bA) 1 1)) (vs := [(.slice (aD bA) 1 1)]) 2 inf37 rfl rfl rfl rfl rfl rfl (by simp [putL]) ⟨Sub.pick [5] rfl, ?_⟩⟩, trivial⟩
     refine RO.fork [10] (by kernel_rfl) rfl ⟨⟨_, rfl, rfl, l_sb (v := (.slice (aD bB) d.next.length d.next.length)) (vs := [(.slice (aD bB) d.next.length d.next.length)]) 0 inf23 rfl rfl rfl rfl rfl rfl (by simp [putL]) ⟨Sub.pick [5] rfl, ?_⟩⟩, trivial⟩
     exact RO.fin (by kernel_rfl) ⟨bA, bB, bC, bD, rfl, (.of rfl)⟩ (Sub.pick [2, 0, 1, 0, 0, 0] rfl)
    refine RO.fork [6, 9] (by kernel_rfl) rfl ⟨⟨_, rfl, rfl, l_makeSlice (m := d.next.length) uT23 inf4 rfl rfl (by omega) (by omega) (fun bB => ⟨Sub.pick [5] rfl, ?_⟩)⟩, ⟨_, rfl, rfl, l_sb (v := (.slice (aD bA) 1 1)) (vs := [(.slice (aD bA) 1 1)]) 1 inf37 rfl rfl rfl rfl rfl rfl (by simp [putL]) ⟨Sub.pick [4] rfl, ?_⟩⟩, trivial⟩
    ·refine RO.fork [9] (by kernel_rfl) rfl ⟨⟨_, rfl, rfl, l_sb (v := (.slice (aD bA) 1 1)) (vs := [(.slice (aD bA) 1 1)]) 2 inf37 rfl rfl rfl rfl rfl rfl (by simp [putL]) ⟨Sub.pick [5] rfl, ?_⟩⟩, trivial⟩
     refine RO.fork [10] (by kernel_rfl) rfl ⟨⟨_, rfl, rfl, l_sb (v := (.slice (aD bB) d.next.length d.next.length)) (vs := [(.slice (aD bB) d.next.length d.next.length)]) 1 inf23 rfl rfl rfl rfl rfl rfl (by simp [putL]) ⟨Sub.pick [5] rfl, ?_⟩⟩, trivial⟩
     exact RO.fin (by kernel_rfl) ⟨bA, bB, bC, bD, rfl, (.of rfl)⟩ (Sub.pick [2, 1, 1, 0, 0, 0] rfl)
    refine RO.fork [6] (by kernel_rfl) rfl ⟨⟨_, rfl, rfl, l_makeSlice (m := d.next.length) uT23 inf4 rfl rfl (by omega) (by omega) (fun bB => ⟨Sub.pick [5] rfl, ?_⟩)⟩, trivial⟩
    refine RO.fork [10] (by kernel_rfl) rfl ⟨⟨_, rfl, rfl, l_sb (v := (.slice (aD bB) d.next.length d.next.length)) (vs := [(.slice (aD bB) d.next.length d.next.length)]) 1 inf23 rfl rfl rfl rfl rfl rfl (by simp [putL]) ⟨Sub.pick [5] rfl, ?_⟩⟩, trivial⟩
    exact RO.fin (by kernel_rfl) ⟨bA, bB, bC, bD, rfl, (.of rfl)⟩ (Sub.pick [2, 1, 1, 0, 0, 0] rfl)
   refine RO.fork [6, 7] (by kernel_rfl) rfl ⟨⟨_, rfl, rfl, l_makeSlice (m := d.next.length) uT23 inf4 rfl rfl (by omega) (by omega) (fun bB => ⟨Sub.pick [4] rfl, ?_⟩)⟩, ⟨_, rfl, rfl, l_alloc inf37 rfl (fun bC => ⟨Sub.pick [4] rfl, ?_⟩)⟩, trivial⟩
   ·refine RO.fork [7] (by kernel_rfl) rfl ⟨⟨_, rfl, rfl, l_alloc inf37 rfl (fun bC => ⟨Sub.pick [5] rfl, ?_⟩)⟩, trivial⟩
    refine RO.fork [9] (by kernel_rfl) rfl ⟨⟨_, rfl, rfl, l_sb (v := (.slice (aD bA) 1 1)) (vs := [(.slice (aD bA) 1 1)]) 0 inf37 rfl rfl rfl rfl rfl rfl (by simp [putL]) ⟨Sub.pick [5] rfl, ?_⟩⟩, trivial⟩
    refine RO.fork [10] (by kernel_rfl) rfl ⟨⟨_, rfl, rfl, l_sb (v := (.slice (aD bB) d.next.length d.next.length)) (vs := [(.slice (aD bB) d.next.length d.next.length)]) 2 inf23 rfl rfl rfl rfl rfl rfl (by simp [putL]) ⟨Sub.pick [5] rfl, ?_⟩⟩, trivial⟩
    exact RO.fin (by kernel_rfl) ⟨bA, bB, bC, bD, rfl, (.of rfl)⟩ (Sub.pick [0, 1, 1, 0, 0, 0] rfl)
   refine RO.fork [6, 9] (by kernel_rfl) rfl ⟨⟨_, rfl, rfl, l_makeSlice (m := d.next.length) uT23 inf4 rfl rfl (by omega) (by omega) (fun bB => ⟨Sub.pick [5] rfl, ?_⟩)⟩, ⟨_, rfl, rfl, l_sb (v := (.slice (aD bA) 1 1)) (vs := [(.slice (aD bA) 1 1)]) 0 inf37 rfl rfl rfl rfl rfl rfl (by simp [putL]) ⟨Sub.pick [4] rfl, ?_⟩⟩, trivial⟩
   ·refine RO.fork [9] (by kernel_rfl) rfl ⟨⟨_, rfl, rfl, l_sb (v := (.slice (aD bA) 1 1)) (vs := [(.slice (aD bA) 1 1)]) 1 inf37 rfl rfl rfl rfl rfl rfl (by simp [putL]) ⟨Sub.pick [5] rfl, ?_⟩⟩, trivial⟩
    refine RO.fork [10] (by kernel_rfl) rfl ⟨⟨_, rfl, rfl, l_sb (v := (.slice (aD bB) d.next.length d.next.length)) (vs := [(.slice (aD bB) d.next.length d.next.length)]) 2 inf23 rfl rfl rfl rfl rfl rfl (by simp [putL]) ⟨Sub.pick [5] rfl, ?_⟩⟩, trivial⟩
    exact RO.fin (by kernel_rfl) ⟨bA, bB, bC, bD, rfl, (.of rfl)⟩ (Sub.pick [1, 1, 1, 0, 0, 0] rfl)
   refine RO.fork [6] (by kernel_rfl) rfl ⟨⟨_, rfl, rfl, l_makeSlice (m := d.next.length) uT23 inf4 rfl rfl (by omega) (by omega) (fun bB => ⟨Sub.pick [5] rfl, ?_⟩)⟩, trivial⟩
   refine RO.fork [10] (by kernel_rfl) rfl ⟨⟨_, rfl, rfl, l_sb (v := (.slice (aD bB) d.next.length d.next.length)) (vs := [(.slice (aD bB) d.next.length d.next.length)]) 2 inf23 rfl rfl rfl rfl rfl rfl (by simp [putL]) ⟨Sub.pick [5] rfl, ?_⟩⟩, trivial⟩
   exact RO.fin (by kernel_rfl) ⟨bA, bB, bC, bD, rfl, (.of rfl)⟩ (Sub.pick [1, 1, 1, 0, 0, 0] rfl)
  ·refine RO.fork [2, 7, 8] (by kernel_rfl) rfl ⟨⟨_, rfl, rfl, l_build1 (v := (vI d.start)) uT37 inf3 rfl rfl rfl (fun bA => ⟨Sub.pick [3] rfl, ?_⟩)⟩, ⟨_, rfl, rfl, l_alloc inf37 rfl (fun bC => ⟨Sub.pick [3] rfl, ?_⟩)⟩, ⟨_, rfl, rfl, l_alloc inf23 rfl (fun bD => ⟨Sub.pick [3] rfl, ?_⟩)⟩, trivial⟩
   ·refine RO.fork [7, 8] (by kernel_rfl) rfl ⟨⟨_, rfl, rfl, l_alloc inf37 rfl (fun bC => ⟨Sub.pick [4] rfl, ?_⟩)⟩, ⟨_, rfl, rfl, l_alloc inf23 rfl (fun bD => ⟨Sub.pick [4] rfl, ?_⟩)⟩, trivial⟩
    ·refine RO.fork [8] (by kernel_rfl) rfl ⟨⟨_, rfl, rfl, l_alloc inf23 rfl (fun bD => ⟨Sub.pick [5] rfl, ?_⟩)⟩, trivial⟩
     refine RO.fork [9] (by kernel_rfl) rfl ⟨⟨_, rfl, rfl, l_sb (v := (.slice (aD bA) 1 1)) (vs := [(.slice (aD bA) 1 1)]) 1 inf37 rfl rfl rfl rfl rfl rfl (by simp [putL]) ⟨Sub.pick [5] rfl, ?_⟩⟩, trivial⟩
     refine RO.fork [10] (by kernel_rfl) rfl ⟨⟨_, rfl, rfl, l_sb (v := (.slice (aD bB) d.next.length d.next.length)) (vs := [(.slice (aD bB) d.next.length d.next.length)]) 0 inf23 rfl rfl rfl rfl rfl rfl (by simp [putL]) ⟨Sub.pick [5] rfl, ?_⟩⟩, trivial⟩
     exact RO.fin (by kernel_rfl) ⟨bA, bB, bC, bD, rfl, (.of rfl)⟩ (Sub.pick [1, 0, 0, 0, 0, 0] rfl)
    refine RO.fork [7] (by kernel_rfl) rfl ⟨⟨_, rfl, rfl, l_alloc inf37 rfl (fun bC => ⟨Sub.pick [5] rfl, ?_⟩)⟩, trivial⟩
    refine RO.fork [9] (by kernel_rfl) rfl ⟨⟨_, rfl, rfl, l_sb (v := (.slice (aD bA) 1 1)) (vs := [(.slice (aD bA) 1 1)]) 0 inf37 rfl rfl rfl rfl rfl rfl (by simp [putL]) ⟨Sub.pick [5] rfl, ?_⟩⟩, trivial⟩
    refine RO.fork [10] (by kernel_rfl) rfl ⟨⟨_, rfl, rfl, l_sb (v := (.slice (aD bB) d.next.length d.next.length)) (vs := [(.slice (aD bB) d.next.length d.next.length)]) 1 inf23 rfl rfl rfl rfl rfl rfl (by simp [putL]) ⟨Sub.pick [5] rfl, ?_⟩⟩, trivial⟩
    exact RO.fin (by kernel_rfl) ⟨bA, bB, bC, bD, rfl, (.of rfl)⟩ (Sub.pick [0, 0, 0, 0, 0, 0] rfl)
   ·refine RO.fork [2, 8] (by kernel_rfl) rfl ⟨⟨_, rfl, rfl, l_build1 (v := (vI d.start)) uT37 inf3 rfl rfl rfl (fun bA => ⟨Sub.pick [4] rfl, ?_⟩)⟩, ⟨_, rfl, rfl, l_alloc inf23 rfl (fun bD => ⟨Sub.pick [4] rfl, ?_⟩)⟩, trivial⟩
    ·refine RO.fork [8] (by kernel_rfl) rfl ⟨⟨_, rfl, rfl, l_alloc inf23 rfl (fun bD => ⟨Sub.pick [5] rfl, ?_⟩)⟩, trivial⟩
     refine RO.fork [9] (by kernel_rfl) rfl ⟨⟨_, rfl, rfl, l_sb (v := (.slice (aD bA) 1 1)) (vs := [(.slice (aD bA) 1 1)]) 2 inf37 rfl rfl rfl rfl rfl rfl (by simp [putL]) ⟨Sub.pick [5] rfl, ?_⟩⟩, trivial⟩
     refine RO.fork [10] (by kernel_rfl) rfl ⟨⟨_, rfl, rfl, l_sb (v := (.slice (aD bB) d.next.length d.next.length)) (vs := [(.slice (aD bB) d.next.length d.next.length)]) 0 inf23 rfl rfl rfl rfl rfl rfl (by simp [putL]) ⟨Sub.pick [5] rfl, ?_⟩⟩, trivial⟩
     exact RO.fin (by kernel_rfl) ⟨bA, bB, bC, bD, rfl, (.of rfl)⟩ (Sub.pick [2, 0, 0, 0, 0, 0] rfl)
    refine RO.fork [2] (by kernel_rfl) rfl ⟨⟨_, rfl, rfl, l_build1 (v := (vI d.start)) uT37 inf3 rfl rfl rfl (fun bA => ⟨Sub.pick [5] rfl, ?_⟩)⟩, trivial⟩
    refine RO.fork [9] (by kernel_rfl) rfl ⟨⟨_, rfl, rfl, l_sb (v := (.slice (aD bA) 1 1)) (vs := [(.slice (aD bA) 1 1)]) 2 inf37 rfl rfl rfl rfl rfl rfl (by simp [putL]) ⟨Sub.pick [5] rfl, ?_⟩⟩, trivial⟩
    refine RO.fork [10] (by kernel_rfl) rfl ⟨⟨_, rfl, rfl, l_sb (v := (.slice (aD bB) d.next.length d.next.length)) (vs := [(.slice (aD bB) d.next.length d.next.length)]) 1 inf23 rfl rfl rfl rfl rfl rfl (by simp [putL]) ⟨Sub.pick [5] rfl, ?_⟩⟩, trivial⟩
    exact RO.fin (by kernel_rfl) ⟨bA, bB, bC, bD, rfl, (.of rfl)⟩ (Sub.pick [2, 1, 0, 0, 0, 0] rfl)
   refine RO.fork [2, 7] (by kernel_rfl) rfl ⟨⟨_, rfl, rfl, l_build1 (v := (vI d.start)) uT37 inf3 rfl rfl rfl (fun bA => ⟨Sub.pick [4] rfl, ?_⟩)⟩, ⟨_, rfl, rfl, l_alloc inf37 rfl (fun bC => ⟨Sub.pick [4] rfl, ?_⟩)⟩, trivial⟩
   ·refine RO.fork [7] (by kernel_rfl) rfl ⟨⟨_, rfl, rfl, l_alloc inf37 rfl (fun bC => ⟨Sub.pick [5] rfl, ?_⟩)⟩, trivial⟩
    refine RO.fork [9] (by kernel_rfl) rfl ⟨⟨_, rfl, rfl, l_sb (v := (.slice (aD bA) 1 1)) (vs := [(.slice (aD bA) 1 1)]) 0 inf37 rfl rfl rfl rfl rfl rfl (by simp [putL]) ⟨Sub.pick [5] rfl, ?_⟩⟩, trivial⟩
    refine RO.fork [10] (by kernel_rfl) rfl ⟨⟨_, rfl, rfl, l_sb (v := (.slice (aD bB) d.next.length d.next.length)) (vs := [(.slice (aD bB) d.next.length d.next.length)]) 2 inf23 rfl rfl rfl rfl rfl rfl (by simp [putL]) ⟨Sub.pick [5] rfl, ?_⟩⟩, trivial⟩
    exact RO.fin (by kernel_rfl) ⟨bA, bB, bC, bD, rfl, (.of rfl)⟩ (Sub.pick [0, 1, 0, 0, 0, 0] rfl)
   refine RO.fork [2] (by kernel_rfl) rfl ⟨⟨_, rfl, rfl, l_build1 (v := (vI d.start)) uT37 inf3 rfl rfl rfl (fun bA => ⟨Sub.pick [5] rfl, ?_⟩)⟩, trivial⟩
   refine RO.fork [9] (by kernel_rfl) rfl ⟨⟨_, rfl, rfl, l_sb (v := (.slice (aD bA) 1 1)) (vs := [(.slice (aD bA) 1 1)]) 1 inf37 rfl rfl rfl rfl rfl rfl (by simp [putL]) ⟨Sub.pick [5] rfl, ?_⟩⟩, trivial⟩
   refine RO.fork [10] (by kernel_rfl) rfl ⟨⟨_, rfl, rfl, l_sb (v := (.slice (aD bB) d.next.length d.next.length)) (vs := [(.slice (aD bB) d.next.length d.next.length)]) 2 inf23 rfl rfl rfl rfl rfl rfl (by simp [putL]) ⟨Sub.pick [5] rfl, ?_⟩⟩, trivial⟩
   exact RO.fin (by kernel_rfl) ⟨bA, bB, bC, bD, rfl, (.of rfl)⟩ (Sub.pick [1, 1, 0, 0, 0, 0] rfl)
  ·refine RO.fork [2, 6, 8] (by kernel_rfl) rfl ⟨⟨_, rfl, rfl, l_build1 (v := (vI d.start)) uT37 inf3 rfl rfl rfl (fun bA => ⟨Sub.pick [3] rfl, ?_⟩)⟩, ⟨_, rfl, rfl, l_makeSlice (m := d.next.length) uT23 inf4 rfl rfl (by omega) (by omega) (fun bB => ⟨Sub.pick [3] rfl, ?_⟩)⟩, ⟨_, rfl, rfl, l_alloc inf23 rfl (fun bD => ⟨Sub.pick [3] rfl, ?_⟩)⟩, trivial⟩
   ·refine RO.fork [6, 8] (by kernel_rfl) rfl ⟨⟨_, rfl, rfl, l_makeSlice (m := d.next.length) uT23 inf4 rfl rfl (by omega) (by omega) (fun bB => ⟨Sub.pick [4] rfl, ?_⟩)⟩, ⟨_, rfl, rfl, l_alloc inf23 rfl (fun bD => ⟨Sub.pick [4] rfl, ?_⟩)⟩, trivial⟩
    ·refine RO.fork [8] (by kernel_rfl) rfl ⟨⟨_, rfl, rfl, l_alloc inf23 rfl (fun bD => ⟨Sub.pick [5] rfl, ?_⟩)⟩, trivial⟩
     refine RO.fork [9] (by kernel_rfl) rfl ⟨⟨_, rfl, rfl, l_sb (v := (.slice (aD bA) 1 1)) (vs := [(.slice (aD bA) 1 1)]) 3 inf37 rfl rfl rfl rfl rfl rfl (by simp [putL]) ⟨Sub.pick [5] rfl, ?_⟩⟩, trivial⟩
     refine RO.fork [10] (by kernel_rfl) rfl ⟨⟨_, rfl, rfl, l_sb (v := (.slice (aD bB) d.next.length d.next.length)) (vs := [(.slice (aD bB) d.next.length d.next.length)]) 0 inf23 rfl rfl rfl rfl rfl rfl (by simp [putL]) ⟨Sub.pick [5] rfl, ?_⟩⟩, trivial⟩
     exact RO.fin (by kernel_rfl) ⟨bA, bB, bC, bD, rfl, (.of rfl)⟩ (Sub.pick [3, 0, 1, 0, 0, 0] rfl)
    refine RO.fork [6, 9] (by kernel_rfl) rfl ⟨⟨_, rfl, rfl, l_makeSlice (m := d.next.length) uT23 inf4 rfl rfl (by omega) (by omega) (fun bB => ⟨Sub.pick [5] rfl, ?_⟩)⟩, ⟨_, rfl, rfl, l_sb (v := (.slice (aD bA) 1 1)) (vs := [(.slice (aD bA) 1 1)]) 2 inf37 rfl rfl rfl rfl rfl rfl (by simp [putL]) ⟨Sub.pick [4] rfl, ?_⟩⟩, trivial⟩
    ·refine RO.fork [9] (by kernel_rfl) rfl ⟨⟨_, rfl, rfl, l_sb (v := (.slice (aD bA) 1 1)) (vs := [(.slice (aD bA) 1 1)]) 3 inf37 rfl rfl rfl rfl rfl rfl (by simp [putL]) ⟨Sub.pick [5] rfl, ?_⟩⟩, trivial⟩
     refine RO.fork [10] (by kernel_rfl) rfl ⟨⟨_, rfl, rfl, l_sb (v := (.slice (aD bB) d.next.length d.next.length)) (vs := [(.slice (aD bB) d.next.length d.next.length)]) 1 inf23 rfl rfl rfl rfl rfl rfl (by simp [putL]) ⟨Sub.pick [5] rfl, ?_⟩⟩, trivial⟩
     exact RO.fin (by kernel_rfl) ⟨bA, bB, bC, bD, rfl, (.of rfl)⟩ (Sub.pick [3, 1, 1, 0, 0, 0] rfl)
    refine RO.fork [6] (by kernel_rfl) rfl ⟨⟨_, rfl, rfl, l_makeSlice (m := d.next.length) uT23 inf4 rfl rfl (by omega) (by omega) (fun bB => ⟨Sub.pick [5] rfl, ?_⟩)⟩, trivial⟩
    refine RO.fork [10] (by kernel_rfl) rfl ⟨⟨_, rfl, rfl, l_sb (v := (.slice (aD bB) d.next.length d.next.length)) (vs := [(.slice (aD bB) d.next.length d.next.length)]) 1 inf23 rfl rfl rfl rfl rfl rfl (by simp [putL]) ⟨Sub.pick [5] rfl, ?_⟩⟩, trivial⟩
    exact RO.fin (by kernel_rfl) ⟨bA, bB, bC, bD, rfl, (.of rfl)⟩ (Sub.pick [3, 1, 1, 0, 0, 0] rfl)
   ·refine RO.fork [2, 8] (by kernel_rfl) rfl ⟨⟨_, rfl, rfl, l_build1 (v := (vI d.start)) uT37 inf3 rfl rfl rfl (fun bA => ⟨Sub.pick [4] rfl, ?_⟩)⟩, ⟨_, rfl, rfl, l_alloc inf23 rfl (fun bD => ⟨Sub.pick [4] rfl, ?_⟩)⟩, trivial⟩
    ·refine RO.fork [8] (by kernel_rfl) rfl ⟨⟨_, rfl, rfl, l_alloc inf23 rfl (fun bD => ⟨Sub.pick [5] rfl, ?_⟩)⟩, trivial⟩
     refine RO.fork [9] (by kernel_rfl) rfl ⟨⟨_, rfl, rfl, l_sb (v := (.slice (aD bA) 1 1)) (vs := [(.slice (aD bA) 1 1)]) 3 inf37 rfl rfl rfl rfl rfl rfl (by simp [putL]) ⟨Sub.pick [5] rfl, ?_⟩⟩, trivial⟩
     refine RO.fork [10] (by kernel_rfl) rfl ⟨⟨_, rfl, rfl, l_sb (v := (.slice (aD bB) d.next.length d.next.length)) (vs := [(.slice (aD bB) d.next.length d.next.length)]) 0 inf23 rfl rfl rfl rfl rfl rfl (by simp [putL]) ⟨Sub.pick [5] rfl, ?_⟩⟩, trivial⟩
     exact RO.fin (by kernel_rfl) ⟨bA, bB, bC, bD, rfl, (.of rfl)⟩ (Sub.pick [3, 0, 0, 0, 0, 0] rfl)
    refine RO.fork [2] (by kernel_rfl) rfl ⟨⟨_, rfl, rfl, l_build1 (v := (vI d.start)) uT37 inf3 rfl rfl rfl (fun bA => ⟨Sub.pick [5] rfl, ?_⟩)⟩, trivial⟩
    refine RO.fork [9] (by kernel_rfl) rfl ⟨⟨_, rfl, rfl, l_sb (v := (.slice (aD bA) 1 1)) (vs := [(.slice (aD bA) 1 1)]) 3 inf37 rfl rfl rfl rfl rfl rfl (by simp [putL]) ⟨Sub.pick [5] rfl, ?_⟩⟩, trivial⟩
    refine RO.fork [10] (by kernel_rfl) rfl ⟨⟨_, rfl, rfl, l_sb (v := (.slice (aD bB) d.next.length d.next.length)) (vs := [(.slice (aD bB) d.next.length d.next.length)]) 1 inf23 rfl rfl rfl rfl rfl rfl (by simp [putL]) ⟨Sub.pick [5] rfl, ?_⟩⟩, trivial⟩
    exact RO.fin (by kernel_rfl) ⟨bA, bB, bC, bD, rfl, (.of rfl)⟩ (Sub.pick [3, 1, 0, 0, 0, 0] rfl)
   refine RO.fork [2, 6] (by kernel_rfl) rfl ⟨⟨_, rfl, rfl, l_build1 (v := (vI d.start)) uT37 inf3 rfl rfl rfl (fun bA => ⟨Sub.pick [4] rfl, ?_⟩)⟩, ⟨_, rfl, rfl, l_makeSlice (m := d.next.length) uT23 inf4 rfl rfl (by omega) (by omega) (fun bB => ⟨Sub.pick [4] rfl, ?_⟩)⟩, trivial⟩
   ·refine RO.fork [6, 9] (by kernel_rfl) rfl ⟨⟨_, rfl, rfl, l_makeSlice (m := d.next.length) uT23 inf4 rfl rfl (by omega) (by omega) (fun bB => ⟨Sub.pick [5] rfl, ?_⟩)⟩, ⟨_, rfl, rfl, l_sb (v := (.slice (aD bA) 1 1)) (vs := [(.slice (aD bA) 1 1)]) 2 inf37 rfl rfl rfl rfl rfl rfl (by simp [putL]) ⟨Sub.pick [4] rfl, ?_⟩⟩, trivial⟩
    ·refine RO.fork [9] (by kernel_rfl) rfl ⟨⟨_, rfl, rfl, l_sb (v := (.slice (aD bA) 1 1)) (vs := [(.slice (aD bA) 1 1)]) 3 inf37 rfl rfl rfl rfl rfl rfl (by simp [putL]) ⟨Sub.pick [5] rfl, ?_⟩⟩, trivial⟩
     refine RO.fork [10] (by kernel_rfl) rfl ⟨⟨_, rfl, rfl, l_sb (v := (.slice (aD bB) d.next.length d.next.length)) (vs := [(.slice (aD bB) d.next.length d.next.length)]) 2 inf23 rfl rfl rfl rfl rfl rfl (by simp [putL]) ⟨Sub.pick [5] rfl, ?_⟩⟩, trivial⟩
     exact RO.fin (by kernel_rfl) ⟨bA, bB, bC, bD, rfl, (.of rfl)⟩ (Sub.pick [3, 2, 1, 0, 0, 0] rfl)
    refine RO.fork [6] (by kernel_rfl) rfl ⟨⟨_, rfl, rfl, l_makeSlice (m := d.next.length) uT23 inf4 rfl rfl (by omega) (by omega) (fun bB => ⟨Sub.pick [5] rfl, ?_⟩)⟩, trivial⟩
    refine RO.fork [10] (by kernel_rfl) rfl ⟨⟨_, rfl, rfl, l_sb (v := (.slice (aD bB) d.next.length d.next.length)) (vs := [(.slice (aD bB) d.next.length d.next.length)]) 2 inf23 rfl rfl rfl rfl rfl rfl (by simp [putL]) ⟨Sub.pick [5] rfl, ?_⟩⟩, trivial⟩
    exact RO.fin (by kernel_rfl) ⟨bA, bB, bC, bD, rfl, (.of rfl)⟩ (Sub.pick [3, 2, 1, 0, 0, 0] rfl)
   refine RO.fork [2] (by kernel_rfl) rfl ⟨⟨_, rfl, rfl, l_build1 (v := (vI d.start)) uT37 inf3 rfl rfl rfl (fun bA => ⟨Sub.pick [5] rfl, ?_⟩)⟩, trivial⟩
   refine RO.fork [9] (by kernel_rfl) rfl ⟨⟨_, rfl, rfl, l_sb (v := (.slice (aD bA) 1 1)) (vs := [(.slice (aD bA) 1 1)]) 3 inf37 rfl rfl rfl rfl rfl rfl (by simp [putL]) ⟨Sub.pick [5] rfl, ?_⟩⟩, trivial⟩
   refine RO.fork [10] (by kernel_rfl) rfl ⟨⟨_, rfl, rfl, l_sb (v := (.slice (aD bB) d.next.length d.next.length)) (vs := [(.slice (aD bB) d.next.length d.next.length)]) 2 inf23 rfl rfl rfl rfl rfl rfl (by simp [putL]) ⟨Sub.pick [5] rfl, ?_⟩⟩, trivial⟩
   exact RO.fin (by kernel_rfl) ⟨bA, bB, bC, bD, rfl, (.of rfl)⟩ (Sub.pick [3, 2, 0, 0, 0, 0] rfl)
  refine RO.fork [2, 6, 7] (by kernel_rfl) rfl ⟨⟨_, rfl, rfl, l_build1 (v := (vI d.start)) uT37 inf3 rfl rfl rfl (fun bA => ⟨Sub.pick [3] rfl, ?_⟩)⟩, ⟨_, rfl, rfl, l_makeSlice (m := d.next.length) uT23 inf4 rfl rfl (by omega) (by omega) (fun bB => ⟨Sub.pick [3] rfl, ?_⟩)⟩, ⟨_, rfl, rfl, l_alloc inf37 rfl (fun bC => ⟨Sub.pick [3] rfl, ?_⟩)⟩, trivial⟩
  ·refine RO.fork [6, 7] (by kernel_rfl) rfl ⟨⟨_, rfl, rfl, l_makeSlice (m := d.next.length) uT23 inf4 rfl rfl (by omega) (by omega) (fun bB => ⟨Sub.pick [4] rfl, ?_⟩)⟩, ⟨_, rfl, rfl, l_alloc inf37 rfl (fun bC => ⟨Sub.pick [4] rfl, ?_⟩)⟩, trivial⟩
   ·refine RO.fork [7] (by kernel_rfl) rfl ⟨⟨_, rfl, rfl, l_alloc inf37 rfl (fun bC => ⟨Sub.pick [5] rfl, ?_⟩)⟩, trivial⟩
    refine RO.fork [9] (by kernel_rfl) rfl ⟨⟨_, rfl, rfl, l_sb (v := (.slice (aD bA) 1 1)) (vs := [(.slice (aD bA) 1 1)]) 0 inf37 rfl rfl rfl rfl rfl rfl (by simp [putL]) ⟨Sub.pick [5] rfl, ?_⟩⟩, trivial⟩
    refine RO.fork [10] (by kernel_rfl) rfl ⟨⟨_, rfl, rfl, l_sb (v := (.slice (aD bB) d.next.length d.next.length)) (vs := [(.slice (aD bB) d.next.length d.next.length)]) 3 inf23 rfl rfl rfl rfl rfl rfl (by simp [putL]) ⟨Sub.pick [5] rfl, ?_⟩⟩, trivial⟩
    exact RO.fin (by kernel_rfl) ⟨bA, bB, bC, bD, rfl, (.of rfl)⟩ (Sub.pick [0, 2, 1, 0, 0, 0] rfl)
   refine RO.fork [6, 9] (by kernel_rfl) rfl ⟨⟨_, rfl, rfl, l_makeSlice (m := d.next.length) uT23 inf4 rfl rfl (by omega) (by omega) (fun bB => ⟨Sub.pick [5] rfl, ?_⟩)⟩, ⟨_, rfl, rfl, l_sb (v := (.slice (aD bA) 1 1)) (vs := [(.slice (aD bA) 1 1)]) 0 inf37 rfl rfl rfl rfl rfl rfl (by simp [putL]) ⟨Sub.pick [4] rfl, ?_⟩⟩, trivial⟩
   ·refine RO.fork [9] (by kernel_rfl) rfl ⟨⟨_, rfl, rfl, l_sb (v := (.slice (aD bA) 1 1)) (vs := [(.slice (aD bA) 1 1)]) 1 inf37 rfl rfl rfl rfl rfl rfl (by simp [putL]) ⟨Sub.pick [5] rfl, ?_⟩⟩, trivial⟩
    refine RO.fork [10] (by kernel_rfl) rfl ⟨⟨_, rfl, rfl, l_sb (v := (.slice (aD bB) d.next.length d.next.length)) (vs := [(.slice (aD bB) d.next.length d.next.length)]) 3 inf23 rfl rfl rfl rfl rfl rfl (by simp [putL]) ⟨Sub.pick [5] rfl, ?_⟩⟩, trivial⟩
    exact RO.fin (by kernel_rfl) ⟨bA, bB, bC, bD, rfl, (.of rfl)⟩ (Sub.pick [1, 2, 1, 0, 0, 0] rfl)
   refine RO.fork [6] (by kernel_rfl) rfl ⟨⟨_, rfl, rfl, l_makeSlice (m := d.next.length) uT23 inf4 rfl rfl (by omega) (by omega) (fun bB => ⟨Sub.pick [5] rfl, ?_⟩)⟩, trivial⟩
   refine RO.fork [10] (by kernel_rfl) rfl ⟨⟨_, rfl, rfl, l_sb (v := (.slice (aD bB) d.next.length d.next.length)) (vs := [(.slice (aD bB) d.next.length d.next.length)]) 3 inf23 rfl rfl rfl rfl rfl rfl (by simp [putL]) ⟨Sub.pick [5] rfl, ?_⟩⟩, trivial⟩
   exact RO.fin (by kernel_rfl) ⟨bA, bB, bC, bD, rfl, (.of rfl)⟩ (Sub.pick [1, 2, 1, 0, 0, 0] rfl)
  ·refine RO.fork [2, 7] (by kernel_rfl) rfl ⟨⟨_, rfl, rfl, l_build1 (v := (vI d.start)) uT37 inf3 rfl rfl rfl (fun bA => ⟨Sub.pick [4] rfl, ?_⟩)⟩, ⟨_, rfl, rfl, l_alloc inf37 rfl (fun bC => ⟨Sub.pick [4] rfl, ?_⟩)⟩, trivial⟩
   ·refine RO.fork [7] (by kernel_rfl) rfl ⟨⟨_, rfl, rfl, l_alloc inf37 rfl (fun bC => ⟨Sub.pick [5] rfl, ?_⟩)⟩, trivial⟩
    refine RO.fork [9] (by kernel_rfl) rfl ⟨⟨_, rfl, rfl, l_sb (v := (.slice (aD bA) 1 1)) (vs := [(.slice (aD bA) 1 1)]) 0 inf37 rfl rfl rfl rfl rfl rfl (by simp [putL]) ⟨Sub.pick [5] rfl, ?_⟩⟩, trivial⟩
    refine RO.fork [10] (by kernel_rfl) rfl ⟨⟨_, rfl, rfl, l_sb (v := (.slice (aD bB) d.next.length d.next.length)) (vs := [(.slice (aD bB) d.next.length d.next.length)]) 3 inf23 rfl rfl rfl rfl rfl rfl (by simp [putL]) ⟨Sub.pick [5] rfl, ?_⟩⟩, trivial⟩
    exact RO.fin (by kernel_rfl) ⟨bA, bB, bC, bD, rfl, (.of rfl)⟩ (Sub.pick [0, 2, 0, 0, 0, 0] rfl)
   refine RO.fork [2] (by kernel_rfl) rfl ⟨⟨_, rfl, rfl, l_build1 (v := (vI d.start)) uT37 inf3 rfl rfl rfl (fun bA => ⟨Sub.pick [5] rfl, ?_⟩)⟩, trivial⟩
   refine RO.fork [9] (by kernel_rfl) rfl ⟨⟨_, rfl, rfl, l_sb (v := (.slice (aD bA) 1 1)) (vs := [(.slice (aD bA) 1 1)]) 1 inf37 rfl rfl rfl rfl rfl rfl (by simp [putL]) ⟨Sub.pick [5] rfl, ?_⟩⟩, trivial⟩
   refine RO.fork [10] (by kernel_rfl) rfl ⟨⟨_, rfl, rfl, l_sb (v := (.slice (aD bB) d.next.length d.next.length)) (vs := [(.slice (aD bB) d.next.length d.next.length)]) 3 inf23 rfl rfl rfl rfl rfl rfl (by simp [putL]) ⟨Sub.pick [5] rfl, ?_⟩⟩, trivial⟩
   exact RO.fin (by kernel_rfl) ⟨bA, bB, bC, bD, rfl, (.of rfl)⟩ (Sub.pick [1, 2, 0, 0, 0, 0] rfl)
  refine RO.fork [2, 6] (by kernel_rfl) rfl ⟨⟨_, rfl, rfl, l_build1 (v := (vI d.start)) uT37 inf3 rfl rfl rfl (fun bA => ⟨Sub.pick [4] rfl, ?_⟩)⟩, ⟨_, rfl, rfl, l_makeSlice (m := d.next.length) uT23 inf4 rfl rfl (by omega) (by omega) (fun bB => ⟨Sub.pick [4] rfl, ?_⟩)⟩, trivial⟩
  ·refine RO.fork [6, 9] (by kernel_rfl) rfl ⟨⟨_, rfl, rfl, l_makeSlice (m := d.next.length) uT23 inf4 rfl rfl (by omega) (by omega) (fun bB => ⟨Sub.pick [5] rfl, ?_⟩)⟩, ⟨_, rfl, rfl, l_sb (v := (.slice (aD bA) 1 1)) (vs := [(.slice (aD bA) 1 1)]) 1 inf37 rfl rfl rfl rfl rfl rfl (by simp [putL]) ⟨Sub.pick [4] rfl, ?_⟩⟩, trivial⟩
   ·refine RO.fork [9] (by kernel_rfl) rfl ⟨⟨_, rfl, rfl, l_sb (v := (.slice (aD bA) 1 1)) (vs := [(.slice (aD bA) 1 1)]) 2 inf37 rfl rfl rfl rfl rfl rfl (by simp [putL]) ⟨Sub.pick [5] rfl, ?_⟩⟩, trivial⟩
    refine RO.fork [10] (by kernel_rfl) rfl ⟨⟨_, rfl, rfl, l_sb (v := (.slice (aD bB) d.next.length d.next.length)) (vs := [(.slice (aD bB) d.next.length d.next.length)]) 3 inf23 rfl rfl rfl rfl rfl rfl (by simp [putL]) ⟨Sub.pick [5] rfl, ?_⟩⟩, trivial⟩
    exact RO.fin (by kernel_rfl) ⟨bA, bB, bC, bD, rfl, (.of rfl)⟩ (Sub.pick [2, 2, 1, 0, 0, 0] rfl)
   refine RO.fork [6] (by kernel_rfl) rfl ⟨⟨_, rfl, rfl, l_makeSlice (m := d.next.length) uT23 inf4 rfl rfl (by omega) (by omega) (fun bB => ⟨Sub.pick [5] rfl, ?_⟩)⟩, trivial⟩
   refine RO.fork [10] (by kernel_rfl) rfl ⟨⟨_, rfl, rfl, l_sb (v := (.slice (aD bB) d.next.length d.next.length)) (vs := [(.slice (aD bB) d.next.length d.next.length)]) 3 inf23 rfl rfl rfl rfl rfl rfl (by simp [putL]) ⟨Sub.pick [5] rfl, ?_⟩⟩, trivial⟩
   exact RO.fin (by kernel_rfl) ⟨bA, bB, bC, bD, rfl, (.of rfl)⟩ (Sub.pick [2, 2, 1, 0, 0, 0] rfl)
  refine RO.fork [2] (by kernel_rfl) rfl ⟨⟨_, rfl, rfl, l_build1 (v := (vI d.start)) uT37 inf3 rfl rfl rfl (fun bA => ⟨Sub.pick [5] rfl, ?_⟩)⟩, trivial⟩
  refine RO.fork [9] (by kernel_rfl) rfl ⟨⟨_, rfl, rfl, l_sb (v := (.slice (aD bA) 1 1)) (vs := [(.slice (aD bA) 1 1)]) 2 inf37 rfl rfl rfl rfl rfl rfl (by simp [putL]) ⟨Sub.pick [5] rfl, ?_⟩⟩, trivial⟩
  refine RO.fork [10] (by kernel_rfl) rfl ⟨⟨_, rfl, rfl, l_sb (v := (.slice (aD bB) d.next.length d.next.length)) (vs := [(.slice (aD bB) d.next.length d.next.length)]) 3 inf23 rfl rfl rfl rfl rfl rfl (by simp [putL]) ⟨Sub.pick [5] rfl, ?_⟩⟩, trivial⟩
  exact RO.fin (by kernel_rfl) ⟨bA, bB, bC, bD, rfl, (.of rfl)⟩ (Sub.pick [2, 2, 0, 0, 0, 0] rfl)
 rintro ρ O ⟨bA, bB, bC, bD, rfl, hH⟩
 obtain ⟨ρ0, rfl⟩ := hH.elim
 clear hH
 refine T.s (T.rg (TO.q (q_lb 1 uT23 rfl rfl rfl rfl) (TO.q (q_fa uT25 rfl inf3 rfl rfl) (TO.q (q_lb 5 uT3 rfl rfl rfl rfl) (TO.q (q_ixz (i := d.start) uT23 inf4 rfl rfl (rowO (mG 3 rfl)) hs0 hsn (by rw [List.length_replicate]; exact hsn)) (TO.l rfl (l_st (j := d.start.toNat) (v := .bool true) (vs := [(.bool true)]) (cs := List.replicate d.next.length (.bool false)) 3 inf4 rfl rfl rfl rfl rfl (by simp) rfl (by first | (simp; omega) | (simp_all; omega)) ?_)))))))
 refine TO.sub (O' := [oI bC 37 [(.slice (aD bA) 1 1)], oI bD 23 [(.slice (aD bB) d.next.length d.next.length)], rowI (aD bA) 1 3 1 [(vI d.start)], rowI (aD bB) d.next.length 4 1 (bools ((List.replicate d.next.length false).set d.start.toNat true)), oI z2 25 [(vI 0), (vI 0), nS, nS], oI z1 25 [(vI d.vars), (vI d.start), (.slice nb d.next.length nc), (.slice fb d.final.length fc)]]) (by rw [show putL (List.replicate d.next.length (.bool false)) d.start.toNat [(.bool true)] = bools ((List.replicate d.next.length false).set d.start.toNat true) from by simp [putL]]; exact Sub.of (List.Sublist.refl _)) ?_
 refine TO.nl (T.s (T.rg (TO.q (q_makeFunc) (TO.qa rfl (TO.nl (T.s (T.rg (TO.q (q_fa uT25 rfl inf3 rfl rfl) (TO.q (q_lb 5 uT3 rfl rfl rfl rfl) (TO.q (q_fa uT25 rfl inf3 rfl rfl) (TO.l rfl (l_sb (v := (vI d.vars)) (vs := [(vI d.vars)]) 4 inf3 rfl rfl rfl rfl rfl rfl (by simp [putL]) ?_))))))))))))
 refine TO.nl (T.s ?_)
 have hJ0 : [oI z1 25 [(vI d.vars), (vI d.start), (.slice nb d.next.length nc), (.slice fb d.final.length fc)], oI bC 37 [(.slice (aD bA) 1 1)], rowI (aD bA) 1 3 1 [(vI d.start)], oI bD 23 [(.slice (aD bB) d.next.length d.next.length)], rowI (aD bB) d.next.length 4 1 (bools ((List.replicate d.next.length false).set d.start.toNat true))] = [oI z1 25 [(vI d.vars), (vI d.start), (.slice nb d.next.length nc), (.slice fb d.final.length fc)], oI bC 37 [(.slice (aD bA) 1 1)], rowI (aD bA) 1 3 1 (nats [d.start.toNat]), oI bD 23 [(.slice (aD bB) d.next.length d.next.length)], rowI (aD bB) d.next.length 4 1 (bools ((List.replicate d.next.length false).set d.start.toNat true))] := by
  rw [show nats [d.start.toNat] = [vI d.start] by simp [Int.toNat_of_nonneg hs0]]
 have hseen : ∀ t, t < d.next.length → ((List.replicate d.next.length false).set d.start.toNat true)[t]? = some (decide (t ∈ [d.start.toNat])) := fun t ht => by
  by_cases e : t = d.start.toNat
  ·subst e; rw [List.getElem?_set_self (by simpa using ht)]; simp
  ·rw [List.getElem?_set_ne (fun h => e h.symm)]; simp [ht, e]
 refine T.draws [oI z1 25 [(vI d.vars), (vI d.start), (.slice nb d.next.length nc), (.slice fb d.final.length fc)]] [(0, 0), (1, 0), (2, 0), (3, 0), (4, 0), (5, 0), (6, 0), (7, 0), (9, 0), (8, 1), (10, 1), (11, 0), (12, 0), (13, 0), (14, 0), (15, 1)] mixed (drawF_ok (by kernel_rfl)) (Sub.pick [5] rfl) (fun _ _ _ h => h) ?_
 refine DO.q rfl (q_fa uT25 rfl inf3 rfl rfl) (DO.q rfl (q_lb 0 uT3 rfl rfl rfl rfl) (DO.q rfl (q_shl1 (v := d.vars.toNat) rfl (by show Value.int _ d.vars = _; rw [Int.toNat_of_nonneg hv.v0]) (by have := hv.v6; omega)) (DO.q rfl (q_fa uT25 rfl inf22 rfl rfl) (DO.q rfl (q_lb 0 uT22 rfl rfl rfl rfl) (DO.q rfl (q_len uT22 rfl) (DO.q rfl (q_fa uT25 rfl inf3 rfl rfl) (DO.q rfl (QT.cast (q_lb 0 uT3 rfl rfl rfl rfl) (v' := vI ((d.start.toNat : Nat) : Int)) (by rw [Int.toNat_of_nonneg hs0])) (DO.q rfl (q_move rfl) ?_))))))))
 have hk40 := fun (w1 : World) (hI : Inv w [oI bC 37 [(.slice (aD bA) 1 1)], oI bD 23 [(.slice (aD bB) d.next.length d.next.length)], rowI (aD bA) 1 3 1 [(vI d.start)], rowI (aD bB) d.next.length 4 1 (bools ((List.replicate d.next.length false).set d.start.toNat true)), oI z2 25 [(vI d.vars), (vI 0), nS, nS], oI z1 25 [(vI d.vars), (vI d.start), (.slice nb d.next.length nc), (.slice fb d.final.length fc)]] w1) => (haveI := tbz hI; itoaF w1 d.start.toNat (by omega))
 refine DO.loud rfl rfl (l_call ent101 (CallT.op hk40) rfl ?_)
 clear hk40
 rintro v O' ⟨N, rfl, rfl, rfl⟩
 refine ⟨Sub.pick [5] rfl, ?_⟩
 have hk42 := CallT.under (B := [oI z2 25 [(vI d.vars), (vI 0), nS, nS]]) (O := [oI bC 37 [(.slice (aD bA) 1 1)], oI bD 23 [(.slice (aD bB) d.next.length d.next.length)], rowI (aD bA) 1 3 1 [(vI d.start)], rowI (aD bB) d.next.length 4 1 (bools ((List.replicate d.next.length false).set d.start.toNat true)), oI z2 25 [(vI d.vars), (vI 0), nS, nS], oI z1 25 [(vI d.vars), (vI d.start), (.slice nb d.next.length nc), (.slice fb d.final.length fc)]]) (exploreC w (trD d) (2 ^ d.vars.toNat) d.next.length (Lib.decDigits d.start.toNat) (.func (.func 100) #[] #[.pointer (aD z1), .pointer (aD bC), .pointer (aD bD)]) (RenJ d nb fb nc fc z1 bB bC bD) (fun ks => ks.length ≤ d.next.length) hv.width hv.n4 (fun ks s x O hs hx _ hJ => nextV w d nb fb nc fc vs h hv hn z1 bB bC bD ks s x O hs hx hJ) (fun _ h => h) [oI z1 25 [(vI d.vars), (vI d.start), (.slice nb d.next.length nc), (.slice fb d.final.length fc)], oI bC 37 [(.slice (aD bA) 1 1)], rowI (aD bA) 1 3 1 [(vI d.start)], oI bD 23 [(.slice (aD bB) d.next.length d.next.length)], rowI (aD bB) d.next.length 4 1 (bools ((List.replicate d.next.length false).set d.start.toNat true))] (by simp; omega) ⟨[d.start.toNat], (List.replicate d.next.length false).set d.start.toNat true, some ⟨bA, 0, none⟩, 1, rfl, hJ0, by simp, by simp; omega, by simp, hseen⟩) (Sub.pick [5, 0, 1, 0, 0, 0] rfl)
 refine DO.loud rfl rfl (l_call ent102 hk42 rfl ?_)
 clear hk42
 rintro v O' ⟨A1, rfl, rb, rc, qs, N, O1, rfl, rfl, ⟨os, sn, ob, oc, hks, rfl, hnd, hos, hsl, hsn9⟩, hgl, hlenN, hE, hen⟩
 refine ⟨Sub.ca ([rowI rb rc 37 1 (vals qs)] ++ itms 3 qs ++ [oI bC 37 [(.slice ob os.length oc)], rowI ob oc 3 1 (nats os), oI bD 23 [(.slice (aD bB) d.next.length d.next.length)], rowI (aD bB) d.next.length 4 1 (bools sn), oI z2 25 [(vI d.vars), (vI 0), nS, nS]]), ?_⟩
 refine DO.sub (O' := [rowI rb rc 37 1 (vals qs), oI z1 25 [(vI d.vars), (vI d.start), (.slice nb d.next.length nc), (.slice fb d.final.length fc)], oI bC 37 [(.slice ob os.length oc)], rowI ob oc 3 1 (nats os), oI bD 23 [(.slice (aD bB) d.next.length d.next.length)], rowI (aD bB) d.next.length 4 1 (bools sn), oI z2 25 [(vI d.vars), (vI 0), nS, nS]] ++ itms 3 qs) (Sub.ca []) ?_
 refine DO.q rfl (q_move rfl) (DO.q rfl (q_extract (vs := _) rfl rfl) (DO.q rfl (q_extract (vs := _) rfl rfl) (DO.q rfl (q_fa uT25 rfl inf22 rfl rfl) ?_)))
 refine DO.loud rfl rfl (l_sb (v := (.slice rb N rc)) (vs := [(.slice rb N rc)]) 6 inf22 rfl rfl rfl rfl rfl rfl (by simp [putL]) ⟨Sub.pick0 [1] [rowI rb rc 37 1 (vals qs), oI z1 25 [(vI d.vars), (vI d.start), (.slice nb d.next.length nc), (.slice fb d.final.length fc)], oI bC 37 [(.slice ob os.length oc)], rowI ob oc 3 1 (nats os), oI bD 23 [(.slice (aD bB) d.next.length d.next.length)], rowI (aD bB) d.next.length 4 1 (bools sn), oI z2 25 [(vI d.vars), (vI 0), (.slice rb N rc), nS]] (itms 3 qs) rfl rfl, ?_⟩)
 refine DO.done ?_
 refine T.s (T.s (T.rg (TO.q (q_lb 2 uT37 rfl rfl rfl rfl) (TO.q (q_len uT37 rfl) (TO.qm rfl (TO.nl (T.block ?_)))))))
 have hol := nodup_bound hnd hos
 refine T.nilRow 4 1 ?_
 refine T.loop (fun (k : Nat) ρ O => ∃ (fb9 : Option Addr) (fc9 : Nat), O = ([rowI fb9 fc9 4 1 (bools ((os.take k).map fun o => d.final.getD o false)), rowI rb rc 37 1 (vals qs), oI z1 25 [(vI d.vars), (vI d.start), (.slice nb d.next.length nc), (.slice fb d.final.length fc)], oI bC 37 [(.slice ob os.length oc)], rowI ob oc 3 1 (nats os), oI bD 23 [(.slice (aD bB) d.next.length d.next.length)], rowI (aD bB) d.next.length 4 1 (bools sn), oI z2 25 [(vI d.vars), (vI 0), (.slice rb N rc), (.slice fb9 k fc9)]] ++ (itms 3 qs)) ∧ k ≤ os.length ∧ Heads [(0, (.agg #[(vI d.vars), (vI d.start), (.slice nb d.next.length nc), (.slice fb d.final.length fc)])), (1, (.pointer (aD z1))), (2, (.pointer (aD z2))), (3, vI 0), (4, vI ((0 : Nat) : Int)), (5, (.pointer (aD bC))), (6, (.pointer (aD bD))), (7, (.func (.func 100) #[] #[(.pointer (aD z1)), (.pointer (aD bC)), (.pointer (aD bD))])), (46, (.slice ob os.length oc)), (47, vI (os.length : Int)), (48, vI (k : Int))] ρ) (fun k => os.length - k) 0 ?_ ?_
 ·exact ⟨none, 0, rfl, Nat.zero_le _, (.of rfl)⟩
 rintro k ρ O ⟨fb9, fc9, rfl, hk, hH⟩
 obtain ⟨ρ0, rfl⟩ := hH.elim
 clear hH
 refine T.s (T.rg (TO.q (q_lss rfl rfl) (TO.nl (T.s (T.condP rfl (fun hc => ?_) (fun hc => ?_))))))
 ·have hlt49 : k < os.length := by omega
  have hok : os[k] < d.next.length := hos _ (List.getElem_mem hlt49)
  have hokf : os[k] < d.final.length := by have := hv.fin; omega
  refine T.skip (T.s (T.block (T.s (T.rg (TO.q (q_ix (i := k) uT37 inf3 rfl rfl (rowO (mG 4 rfl))) (TO.q (q_ld uT3 rfl rfl (rowO (mG 4 rfl)) nats_get) (TO.qa rfl (TO.nl ?_))))))))
  refine T.draws [oI z1 25 [(vI d.vars), (vI d.start), (.slice nb d.next.length nc), (.slice fb d.final.length fc)], oI z2 25 [(vI d.vars), (vI 0), (.slice rb N rc), (.slice fb9 k fc9)]] [(0, 0), (1, 0), (2, 0), (3, 0), (4, 0), (5, 0), (6, 0), (7, 1), (8, 2), (9, 2), (10, 2)] mixed (by kernel_rfl) (Sub.pick0 [2, 6] [rowI fb9 fc9 4 1 (bools ((os.take k).map fun o => d.final.getD o false)), rowI rb rc 37 1 (vals qs), oI z1 25 [(vI d.vars), (vI d.start), (.slice nb d.next.length nc), (.slice fb d.final.length fc)], oI bC 37 [(.slice ob os.length oc)], rowI ob oc 3 1 (nats os), oI bD 23 [(.slice (aD bB) d.next.length d.next.length)], rowI (aD bB) d.next.length 4 1 (bools sn), oI z2 25 [(vI d.vars), (vI 0), (.slice rb N rc), (.slice fb9 k fc9)]] (itms 3 qs) rfl rfl) (fun _ _ _ h => h) ?_
  refine DO.q rfl (q_fa uT25 rfl inf23 rfl rfl) (DO.q rfl (q_lb 1 uT23 rfl rfl rfl rfl) (DO.q rfl (q_fa uT25 rfl inf23 rfl rfl) (DO.q rfl (q_lb 0 uT23 rfl rfl rfl rfl) (DO.q rfl (q_move rfl) (DO.q rfl (q_ix (i := os[k]) uT23 inf4 rfl rfl (Sl.o h.final)) (DO.q rfl (q_ld uT4 rfl rfl (Sl.o h.final) bools_get) ?_))))))
  refine DO.loud rfl rfl (l_build1 (v := .bool d.final[os[k]]) uT23 inf4 rfl rfl rfl (fun z3 => ⟨Sub.pick0 [3, 7] [rowI (aD z3) 1 4 1 [.bool d.final[os[k]]], rowI fb9 fc9 4 1 (bools ((os.take k).map fun o => d.final.getD o false)), rowI rb rc 37 1 (vals qs), oI z1 25 [(vI d.vars), (vI d.start), (.slice nb d.next.length nc), (.slice fb d.final.length fc)], oI bC 37 [(.slice ob os.length oc)], rowI ob oc 3 1 (nats os), oI bD 23 [(.slice (aD bB) d.next.length d.next.length)], rowI (aD bB) d.next.length 4 1 (bools sn), oI z2 25 [(vI d.vars), (vI 0), (.slice rb N rc), (.slice fb9 k fc9)]] (itms 3 qs) rfl rfl, ?_⟩))
  refine DO.last rfl rfl (l_append 1 uT23 uT23 inf4 rfl rfl rfl rfl (by simp; omega) (by decide) (Src.row (j := 0) rfl (by simp)) (by simp [oneB]) (by omega) (by decide) (by decide) (fun z4 zc5 => ?_))
  refine DO.last rfl rfl (LT.oq rfl rfl (q_fa uT25 rfl inf23 rfl rfl) ?_)
  refine DO.last rfl rfl (l_sb (v := (.slice z4 (k + 1) zc5)) (vs := [(.slice z4 (k + 1) zc5)]) 8 inf23 rfl rfl rfl rfl rfl rfl (by simp [putL]) ?_)
  refine DO.sub (O' := ([rowI z4 zc5 4 1 ((bools ((os.take k).map fun o => d.final.getD o false)) ++ [.bool d.final[os[k]]]), rowI rb rc 37 1 (vals qs), oI z1 25 [(vI d.vars), (vI d.start), (.slice nb d.next.length nc), (.slice fb d.final.length fc)], oI bC 37 [(.slice ob os.length oc)], rowI ob oc 3 1 (nats os), oI bD 23 [(.slice (aD bB) d.next.length d.next.length)], rowI (aD bB) d.next.length 4 1 (bools sn), oI z2 25 [(vI d.vars), (vI 0), (.slice rb N rc), (.slice z4 (k + 1) zc5)]] ++ (itms 3 qs))) (Sub.pickR [1, 1, 1, 1, 1, 1, 1, 1] [rowI (aD z3) 1 4 1 [.bool d.final[os[k]]], rowI z4 zc5 4 1 ((bools ((os.take k).map fun o => d.final.getD o false)) ++ [.bool d.final[os[k]]]), rowI rb rc 37 1 (vals qs), oI z1 25 [(vI d.vars), (vI d.start), (.slice nb d.next.length nc), (.slice fb d.final.length fc)], oI bC 37 [(.slice ob os.length oc)], rowI ob oc 3 1 (nats os), oI bD 23 [(.slice (aD bB) d.next.length d.next.length)], rowI (aD bB) d.next.length 4 1 (bools sn), oI z2 25 [(vI d.vars), (vI 0), (.slice rb N rc), (.slice z4 (k + 1) zc5)]] (itms 3 qs) rfl rfl) ?_
  refine DO.done ?_
  refine T.rg (TO.q (q_inc rfl rfl (by omega)) (TO.qm rfl (TO.nl ?_)))
  have hst : (List.take (k + 1) os).map (fun o => d.final.getD o false) = (List.take k os).map (fun o => d.final.getD o false) ++ [d.final[os[k]]] := by
   rw [List.take_succ_eq_append_getElem hlt49, List.map_append]; simp [hokf]
  exact ⟨k + 1, by omega, z4, zc5, by rw [hst, show bools ((List.take k os).map (fun o => d.final.getD o false) ++ [d.final[os[k]]]) = bools ((List.take k os).map fun o => d.final.getD o false) ++ [.bool d.final[os[k]]] from List.map_append], by omega, (.of rfl)⟩
 have hge49 : ¬ k < os.length := by omega
 refine T.exit ?_
 refine T.s (T.rg (TO.q (q_la 7 uT25 rfl inf25 rfl rfl rfl) (TO.l rfl (l_sb (v := (.agg #[(vI d.vars), (vI 0), (.slice rb N rc), (.slice fb9 k fc9)])) (vs := [(vI d.vars), (vI 0), (.slice rb N rc), (.slice fb9 k fc9)]) 7 inf25 rfl rfl rfl rfl rfl rfl (by simp [putL]) ?_))))
 refine TO.qa rfl (TO.nl (T.ret (Res.drop ?_)))
 refine Res.cell1b (vI 0) (i := 7) Tryz.results74 uT25 rfl inf25 rfl rfl rfl rfl ?_
 have hke : k = os.length := by omega
 obtain ⟨ho, hN9⟩ := ren_order hen hks hlenN (nodup_bound hnd hos)
 have hnx := ren_next hks hE ho hN9
 have hfx : (List.take k os).map (fun o => d.final.getD o false) = (renum d).final := by rw [List.take_of_length_le (by omega), ho]; rfl
 have hl1 : (renum d).next.length = N := by rw [← hnx, hE.len]
 have hl2 : (renum d).final.length = k := by rw [← hfx, List.length_map, List.length_take]; omega
 refine ⟨[rowI rb rc 37 1 (vals qs), rowI fb9 fc9 4 1 (bools ((os.take k).map fun o => d.final.getD o false))] ++ itms 3 qs, (Sub.pickR [1, 0] [rowI fb9 fc9 4 1 (bools ((os.take k).map fun o => d.final.getD o false)), rowI rb rc 37 1 (vals qs), oI z1 25 [(vI d.vars), (vI d.start), (.slice nb d.next.length nc), (.slice fb d.final.length fc)], oI bC 37 [(.slice ob os.length oc)], rowI ob oc 3 1 (nats os), oI bD 23 [(.slice (aD bB) d.next.length d.next.length)], rowI (aD bB) d.next.length 4 1 (bools sn), oI z2 25 [(vI d.vars), (vI 0), (.slice rb N rc), (.slice fb9 k fc9)]] (itms 3 qs) rfl rfl), rb, rc, fb9, fc9, qs, ?_, by rw [hfx], hnx⟩
 show Value.tuple #[Value.agg (List.toArray [vI d.vars, vI 0, .slice rb N rc, .slice fb9 k fc9]), _] = Value.tuple #[Value.agg (List.toArray [vI d.vars, vI 0, .slice rb (renum d).next.length rc, .slice fb9 (renum d).final.length fc9]), _]
 rw [hl1, hl2]
end Go.Proofs.YtohkmggbfcnapaaGreatDoor


namespace Go.Proofs.YtohkmggbfcnapaaGreatDoor
open Go.Lx Go.RowKit _root_.Go.Proofs.Tryz
theorem minBad (w : World) [Tab Tryz.prog w] (d : DFA) (nb fb : Option Addr) (nc fc : Nat) (vs : List Value) (h : DfaAt w d nb vs fb) (hb : d.next.length < 9223372036854775807) (hbr : ∀ r ∈ d.next, r.length < 9223372036854775807) (hbf : d.final.length < 9223372036854775807) (he : checkD d ≠ 0) :
  PureT Tryz.prog 34 [.agg (dfaCells d nb nc fb fc).toArray] w fun v N => v = .tuple #[.agg #[vI 0, vI 0, nS, nS], vI (checkD d : Int)] ∧ N = [] := by
 refine CallT.enter func34 rfl ntmps34 rfl ?_
 refine T.s (T.rg (TO.l rfl (l_box (v := (.agg #[(vI d.vars), (vI d.start), (.slice nb d.next.length nc), (.slice fb d.final.length fc)])) (cs := [(vI d.vars), (vI d.start), (.slice nb d.next.length nc), (.slice fb d.final.length fc)]) rfl rfl (fun b1 => ?_))))
 refine TO.l rfl (l_alloc inf25 rfl (fun b2 => ?_))
 refine TO.qa rfl (TO.nl (T.s (T.rg (TO.q (q_la 1 uT25 rfl inf25 rfl rfl rfl) ?_))))
 have hk14 := fun (w1 : World) (hI : Inv w [oI b2 25 [(vI 0), (vI 0), nS, nS], oI b1 25 [(vI d.vars), (vI d.start), (.slice nb d.next.length nc), (.slice fb d.final.length fc)]] w1) => (haveI := tbz hI; classesBad w1 d nb fb nc fc vs (hI.dfa h) hb hbr hbf he)
 refine TO.l rfl (l_call ent72 (CallT.op hk14) rfl ?_)
 clear hk14
 rintro v O' ⟨N, rfl, rfl, rfl⟩
 refine TO.qm rfl (TO.q (q_extract (vs := _) rfl rfl) (TO.q (q_extract (vs := _) rfl rfl) (TO.l rfl (l_alloc inf37 rfl (fun b3 => ?_)))))
 refine TO.l rfl (l_sb (v := nS) (vs := [nS]) 0 inf37 rfl rfl rfl rfl rfl rfl (by simp [putL]) ?_)
 refine TO.qa rfl (TO.nl (T.s (T.s (T.rg (TO.qm rfl (TO.q (QT.toB (q_neq rfl rfl) (decide_eq_true (by omega))) (TO.nl ?_)))))))
 refine T.cond1 rfl ?_
 refine T.s (T.rg (TO.q (q_build plan25 inf25 rfl) (TO.qm rfl (TO.l rfl (l_sb (v := (.agg #[(vI 0), (vI 0), nS, nS])) (vs := [(vI 0), (vI 0), nS, nS]) 1 inf25 rfl rfl rfl rfl rfl rfl (by simp [putL]) ?_)))))
 refine TO.qa rfl (TO.nl (T.ret (Res.drop ?_)))
 refine Res.cell1b (vI (checkD d : Int)) (i := 1) Tryz.results34 uT25 rfl inf25 rfl rfl rfl rfl ?_
 exact ⟨[], Sub.of (List.nil_sublist _), rfl, rfl⟩
theorem minOk (w : World) [Tab Tryz.prog w] (d : DFA) (nb fb : Option Addr) (nc fc : Nat) (vs : List Value) (h : DfaAt w d nb vs fb) (hv : Valid d) (hn : d.next.length < 10000) (hqv : Valid (quo d (itF d d.next.length))) (hqn : (quo d (itF d d.next.length)).next.length < 10000) :
  PureT Tryz.prog 34 [.agg (dfaCells d nb nc fb fc).toArray] w fun v N => ∃ nb' nc' fb' fc' qs, v = .tuple #[.agg (dfaCells (renum (quo d (itF d d.next.length))) nb' nc' fb' fc').toArray, vI 0] ∧ N = [rowI nb' nc' 37 1 (vals qs), rowI fb' fc' 4 1 (bools (renum (quo d (itF d d.next.length))).final)] ++ itms 3 qs ∧ nums qs = (renum (quo d (itF d d.next.length))).next := by
 refine CallT.enter func34 rfl ntmps34 rfl ?_
 obtain ⟨cs, hcs⟩ : ∃ cs, itF d d.next.length = cs := ⟨_, rfl⟩
 rw [hcs] at hqv hqn ⊢
 have hcl : cs.length = d.next.length := hcs ▸ itF_length d _
 have hc9 : ∀ x ∈ cs, x < 10000 := hcs ▸ itF_lt hn _
 have hs0 := hv.s0
 have hs1 := hv.s1
 have hn0 := hv.n0
 have hn4 := hv.n4
 have hsn : d.start.toNat < cs.length := by omega
 have hb : d.next.length < 9223372036854775807 := by omega
 refine T.s (T.rg (TO.l rfl (l_box (v := (.agg #[(vI d.vars), (vI d.start), (.slice nb d.next.length nc), (.slice fb d.final.length fc)])) (cs := [(vI d.vars), (vI d.start), (.slice nb d.next.length nc), (.slice fb d.final.length fc)]) rfl rfl (fun z1 => ?_))))
 refine TO.l rfl (l_alloc inf25 rfl (fun z2 => ?_))
 refine TO.qa rfl (TO.nl (T.s (T.rg (TO.q (q_la 1 uT25 rfl inf25 rfl rfl rfl) ?_))))
 have hk14 := fun (w1 : World) (hI : Inv w [oI z2 25 [(vI 0), (vI 0), nS, nS], oI z1 25 [(vI d.vars), (vI d.start), (.slice nb d.next.length nc), (.slice fb d.final.length fc)]] w1) => (haveI := tbz hI; classesOk w1 d nb fb nc fc vs (hI.dfa h) hv hn)
 refine TO.l rfl (l_call ent72 (CallT.op hk14) rfl ?_)
 clear hk14
 rintro v O' ⟨N, rfl, cb, cc, rfl, rfl⟩
 rw [hcs]
 refine TO.qm rfl (TO.q (q_extract (vs := _) rfl rfl) (TO.q (q_extract (vs := _) rfl rfl) (TO.l rfl (l_alloc inf37 rfl (fun z3 => ?_)))))
 refine TO.l rfl (l_sb (v := (.slice cb d.next.length cc)) (vs := [(.slice cb d.next.length cc)]) 0 inf37 rfl rfl rfl rfl rfl rfl (by simp [putL]) ?_)
 refine TO.qa rfl (TO.nl (T.s (T.s (T.rg (TO.qm rfl (TO.q (q_neq rfl rfl) (TO.nl (T.cond0 rfl (T.skip (T.s ?_))))))))))
 refine T.draws [oI z3 37 [(.slice cb d.next.length cc)], rowI cb cc 3 1 (nats cs), oI z1 25 [(vI d.vars), (vI d.start), (.slice nb d.next.length nc), (.slice fb d.final.length fc)]] [(0, 0), (1, 0), (2, 0), (3, 0), (4, 0), (5, 0), (6, 0), (7, 0), (8, 1), (9, 2)] mixed (by kernel_rfl) (Sub.pick [0, 0, 1] rfl) (fun _ _ _ h => h) ?_
 refine DO.q rfl (q_fa uT25 rfl inf3 rfl rfl) (DO.q rfl (q_lb 2 uT3 rfl rfl rfl rfl) (DO.q rfl (q_lb 0 uT37 rfl rfl rfl rfl) (DO.q rfl (q_fa uT25 rfl inf3 rfl rfl) (DO.q rfl (q_lb 2 uT3 rfl rfl rfl rfl) (DO.q rfl (q_ixz (i := d.start) uT37 inf3 rfl rfl (rowO (mG 1 rfl)) hs0 (hcl ▸ hsn) (by rw [List.length_map]; exact hsn)) (DO.q rfl (q_ld uT3 rfl rfl (rowO (mG 1 rfl)) (show (nats cs)[d.start.toNat]? = some (vI ((cs.getD d.start.toNat 0 : Nat) : Int)) by rw [nats_get hsn]; simp [hsn])) (DO.q rfl (q_build (cs := [(vI d.vars), vI ((cs.getD d.start.toNat 0 : Nat) : Int), nS, nS]) plan25 inf25 (by kernel_rfl)) ?_)))))))
 refine DO.loud rfl rfl (l_alloc inf25 rfl (fun z4 => ⟨Sub.pick [1, 1, 2] rfl, ?_⟩))
 refine DO.last rfl rfl (l_sb (v := (.agg #[(vI d.vars), vI ((cs.getD d.start.toNat 0 : Nat) : Int), nS, nS])) (vs := [(vI d.vars), vI ((cs.getD d.start.toNat 0 : Nat) : Int), nS, nS]) 0 inf25 rfl rfl rfl rfl rfl rfl (by simp [putL]) ?_)
 refine DO.done ?_
 refine T.s (T.s (T.rg (TO.q (q_la 4 uT25 rfl inf25 rfl rfl rfl) ?_)))
 have hk30 := fun (w1 : World) (hI : Inv w [oI z4 25 [(vI d.vars), vI ((cs.getD d.start.toNat 0 : Nat) : Int), nS, nS], oI z3 37 [(.slice cb d.next.length cc)], rowI cb cc 3 1 (nats cs), oI z2 25 [(vI 0), (vI 0), nS, nS], oI z1 25 [(vI d.vars), (vI d.start), (.slice nb d.next.length nc), (.slice fb d.final.length fc)]] w1) => (haveI := tbz hI; rowsF w1 d nb fb nc fc)
 refine TO.l rfl (l_call ent73 (CallT.op hk30) rfl ?_)
 clear hk30
 rintro v O' ⟨N, rfl, bR, rfl, rfl⟩
 refine TO.nl (T.nilRow 4 1 ?_)
 refine T.nilRow 37 1 ?_
 refine T.sub (O' := [oI bR 25 [(vI d.vars), (vI d.start), (.slice nb d.next.length nc), (.slice fb d.final.length fc)], oI z4 25 [(vI d.vars), vI ((cs.getD d.start.toNat 0 : Nat) : Int), nS, nS], rowI none 0 37 1 (vals []), rowI none 0 4 1 (bools []), oI z3 37 [(.slice cb d.next.length cc)], rowI cb cc 3 1 (nats cs), oI z2 25 [(vI 0), (vI 0), nS, nS], oI z1 25 [(vI d.vars), (vI d.start), (.slice nb d.next.length nc), (.slice fb d.final.length fc)]]) (Sub.pick [2, 2, 0, 0, 0, 0, 0, 0] rfl) ?_
 refine T.block ?_
 refine T.rangeFunc (first := []) (caps := [(.pointer (aD bR))]) rfl ent99 (fun yl yq yhq => ?_)
 refine CallT.mono (CallT.sub (O' := oI bR 25 [(vI d.vars), (vI d.start), (.slice nb d.next.length nc), (.slice fb d.final.length fc)] :: (objI yl (lp yq none) :: [oI z4 25 [(vI d.vars), vI ((cs.getD d.start.toNat 0 : Nat) : Int), nS, nS], rowI none 0 37 1 (vals []), rowI none 0 4 1 (bools []), oI z3 37 [(.slice cb d.next.length cc)], rowI cb cc 3 1 (nats cs), oI z2 25 [(vI 0), (vI 0), nS, nS], oI z1 25 [(vI d.vars), (vI d.start), (.slice nb d.next.length nc), (.slice fb d.final.length fc)]])) (Sub.pick [1, 0, 0, 0, 0, 0, 0, 0, 0] rfl) (rows1 w d nb fb nc fc vs h hb bR (.func (.yield yl) #[] #[]) (fun k O => ∃ (ob fb9 : Option Addr) (oc fc9 : Nat) (qs : List Rec) (fs : List Bool), O = objI yl (lp yq none) :: ([oI z4 25 [(vI d.vars), (vI ((cs.getD d.start.toNat 0 : Nat) : Int)), (.slice ob qs.length oc), (.slice fb9 fs.length fc9)], rowI ob oc 37 1 (vals qs), rowI fb9 fc9 4 1 (bools fs), oI z3 37 [(.slice cb d.next.length cc)], rowI cb cc 3 1 (nats cs), oI z2 25 [(vI 0), (vI 0), nS, nS], oI z1 25 [(vI d.vars), (vI d.start), (.slice nb d.next.length nc), (.slice fb d.final.length fc)]] ++ (itms 3 qs)) ∧ k ≤ d.next.length ∧ nums qs = (quoN d cs k).1 ∧ fs = (quoN d cs k).2) (fun _ => False) ?_ _ ?_)) ?_
 ·intro k hlt vb vc O g1 s1 hJ
  obtain ⟨ob, fb9, oc, fc9, qs, fs, rfl, hk, hqs, hfs⟩ := hJ
  refine CallV.yield yhq rfl rfl ?_
  have hkc : k < cs.length := by omega
  have hql : qs.length = (quoN d cs k).1.length := by rw [← hqs]; simp
  have hfl : fs.length = (quoN d cs k).1.length := by rw [hfs]; exact (quoN_len d cs k).1.symm
  have hqk := (quoN_len d cs k).2
  have hkf : k < d.final.length := by have := hv.fin; omega
  have hrl : d.next[k].length ≤ 64 := by
   have := hv.len _ (List.getElem_mem hlt); have := hv.width; omega
  have hto : ∀ j (hj : j < d.next[k].length), 0 ≤ d.next[k][j] ∧ d.next[k][j].toNat < cs.length := fun j hj => by have := hv.ok _ (List.getElem_mem hlt) _ (List.getElem_mem hj); omega
  refine T.s (T.rg (TO.qa rfl (TO.nl (T.rg (TO.qa rfl (TO.nl (T.block (T.s (T.s ?_)))))))))
  refine T.draws [oI z4 25 [(vI d.vars), (vI ((cs.getD d.start.toNat 0 : Nat) : Int)), (.slice ob qs.length oc), (.slice fb9 fs.length fc9)], oI z3 37 [(.slice cb d.next.length cc)], rowI cb cc 3 1 (nats cs)] [(0, 0), (1, 0), (2, 0), (3, 0), (4, 0), (5, 0), (6, 0), (7, 0)] mixed (by kernel_rfl) (Sub.pick0 [0, 2, 2] [oI z4 25 [(vI d.vars), (vI ((cs.getD d.start.toNat 0 : Nat) : Int)), (.slice ob qs.length oc), (.slice fb9 fs.length fc9)], rowI ob oc 37 1 (vals qs), rowI fb9 fc9 4 1 (bools fs), oI z3 37 [(.slice cb d.next.length cc)], rowI cb cc 3 1 (nats cs), oI z2 25 [(vI 0), (vI 0), nS, nS], oI z1 25 [(vI d.vars), (vI d.start), (.slice nb d.next.length nc), (.slice fb d.final.length fc)]] (itms 3 qs) rfl rfl) (fun _ _ _ h => h) ?_
  refine DO.q rfl (q_lb 1 uT37 rfl rfl rfl rfl) (DO.q rfl (q_move rfl) (DO.q rfl (q_ix (i := k) uT37 inf3 rfl rfl (rowO (mG 2 rfl))) (DO.q rfl (q_ld uT3 rfl rfl (rowO (mG 2 rfl)) nats_get) (DO.q rfl (q_fa uT25 rfl inf22 rfl rfl) (DO.q rfl (q_lb 0 uT22 rfl rfl rfl rfl) (DO.q rfl (q_len uT22 rfl) (DO.q rfl (q_lss rfl rfl) ?_)))))))
  refine DO.done ?_
  refine T.condP rfl (fun hc => ?_) (fun hc => ?_)
  ·have hlt40 : cs[k] < qs.length := by omega
   have hqn1 : quoN d cs (k + 1) = quoN d cs k := by rw [quoN, if_pos (by simp [hkc]; omega)]
   refine T.exit ?_
   refine .inl ⟨rfl, ob, fb9, oc, fc9, qs, fs, rfl, by omega, ?_, ?_⟩
   ·rw [hqn1]; exact hqs
   ·rw [hqn1]; exact hfs
  have hge40 : ¬ cs[k] < qs.length := by omega
  have hqn2 : quoN d cs (k + 1) = ((quoN d cs k).1 ++ [(rowK cs d.next[k]).map fun c : Nat => (c : Int)], (quoN d cs k).2 ++ [d.final[k]]) := by rw [quoN, if_neg (by simp [hkc]; omega)]; simp [hlt, hkf]
  refine T.skip (T.s (T.rg (TO.qa rfl (TO.nl (T.s (T.s (T.rg (TO.qm rfl (TO.q (q_len uT37 rfl) (TO.qm rfl (TO.nl (T.block (T.nilRow 3 1 ?_)))))))))))))
  refine T.loop (fun (j : Nat) ρ O => ∃ (kb : Option Addr) (kc : Nat), O = ([rowI kb kc 3 1 (nats ((rowK cs d.next[k]).take j)), oI z4 25 [(vI d.vars), (vI ((cs.getD d.start.toNat 0 : Nat) : Int)), (.slice ob qs.length oc), (.slice fb9 fs.length fc9)], rowI ob oc 37 1 (vals qs), rowI fb9 fc9 4 1 (bools fs), oI z3 37 [(.slice cb d.next.length cc)], rowI cb cc 3 1 (nats cs), oI z2 25 [(vI 0), (vI 0), nS, nS], oI z1 25 [(vI d.vars), (vI d.start), (.slice nb d.next.length nc), (.slice fb d.final.length fc)]] ++ (itms 3 qs)) ∧ j ≤ d.next[k].length ∧ Heads [(0, (.agg #[(vI d.vars), (vI d.start), (.slice nb d.next.length nc), (.slice fb d.final.length fc)])), (1, (.pointer (aD z1))), (2, (.pointer (aD z2))), (3, vI 0), (4, (.pointer (aD z3))), (5, vI 0), (6, (.pointer (aD z4))), (7, vI (k : Int)), (8, (.slice vb d.next[k].length vc)), (9, (.slice kb j kc)), (41, (.slice vb d.next[k].length vc)), (42, vI (d.next[k].length : Int)), (43, vI (j : Int))] ρ) (fun j => d.next[k].length - j) 0 ?_ ?_
  ·exact ⟨none, 0, rfl, Nat.zero_le _, (.of rfl)⟩
  rintro j ρ O ⟨kb, kc, rfl, hj, hH⟩
  obtain ⟨ρ0, rfl⟩ := hH.elim
  clear hH
  refine T.s (T.rg (TO.q (q_lss rfl rfl) (TO.nl (T.s (T.condP rfl (fun hc => ?_) (fun hc => ?_))))))
  ·have hlt44 : j < d.next[k].length := by omega
   have htj := (hto j hlt44).2
   refine T.skip (T.s (T.block (T.s (T.rg (TO.q (q_ix (i := j) uT37 inf3 rfl rfl (Sl.o s1)) (TO.q (q_ld uT3 rfl rfl (Sl.o s1) ints_get) (TO.qa rfl (TO.nl (T.rg (TO.qm rfl (TO.q (q_lb 4 uT37 rfl rfl rfl rfl) (TO.qm rfl (TO.q (q_ixz (i := d.next[k][j]) uT37 inf3 rfl rfl (rowO (mG 5 rfl)) (hto j hlt44).1 (hcl ▸ (hto j hlt44).2) (by rw [List.length_map]; exact (hto j hlt44).2)) (TO.q (q_ld uT3 rfl rfl (rowO (mG 5 rfl)) (nats_get (hto j hlt44).2)) (TO.l rfl (l_build1 (v := vI ((cs[d.next[k][j].toNat] : Nat) : Int)) uT37 inf3 rfl rfl rfl (fun z5 => ?_)))))))))))))))))
   refine TO.l rfl (l_append 1 uT37 uT37 inf3 rfl rfl rfl rfl (by rw [List.length_map, List.length_take, rowK_length]; omega) (by decide) (Src.row (j := 0) rfl (by simp)) (by simp [oneB]) (by omega) (by decide) (by decide) (fun z6 zc7 => ?_))
   refine TO.qa rfl ?_
   refine TO.sub (O' := ([rowI z6 zc7 3 1 ((nats ((rowK cs d.next[k]).take j)) ++ [vI ((cs[d.next[k][j].toNat] : Nat) : Int)]), oI z4 25 [(vI d.vars), (vI ((cs.getD d.start.toNat 0 : Nat) : Int)), (.slice ob qs.length oc), (.slice fb9 fs.length fc9)], rowI ob oc 37 1 (vals qs), rowI fb9 fc9 4 1 (bools fs), oI z3 37 [(.slice cb d.next.length cc)], rowI cb cc 3 1 (nats cs), oI z2 25 [(vI 0), (vI 0), nS, nS], oI z1 25 [(vI d.vars), (vI d.start), (.slice nb d.next.length nc), (.slice fb d.final.length fc)]] ++ (itms 3 qs))) (Sub.pickR [1, 1, 1, 1, 1, 1, 1, 1] [rowI (aD z5) 1 3 1 [vI ((cs[d.next[k][j].toNat] : Nat) : Int)], rowI z6 zc7 3 1 ((nats ((rowK cs d.next[k]).take j)) ++ [vI ((cs[d.next[k][j].toNat] : Nat) : Int)]), oI z4 25 [(vI d.vars), (vI ((cs.getD d.start.toNat 0 : Nat) : Int)), (.slice ob qs.length oc), (.slice fb9 fs.length fc9)], rowI ob oc 37 1 (vals qs), rowI fb9 fc9 4 1 (bools fs), oI z3 37 [(.slice cb d.next.length cc)], rowI cb cc 3 1 (nats cs), oI z2 25 [(vI 0), (vI 0), nS, nS], oI z1 25 [(vI d.vars), (vI d.start), (.slice nb d.next.length nc), (.slice fb d.final.length fc)]] (itms 3 qs) rfl rfl) ?_
   refine TO.nl (T.rg (TO.q (q_inc rfl rfl (by omega)) (TO.qm rfl (TO.nl ?_))))
   have hst : (rowK cs d.next[k]).take (j + 1) = (rowK cs d.next[k]).take j ++ [cs[d.next[k][j].toNat]] := by rw [List.take_succ_eq_append_getElem (by rw [rowK_length]; exact hlt44), rowK_get hlt44 (hto j hlt44).2]
   exact ⟨j + 1, by omega, z6, zc7, by rw [hst, show nats ((rowK cs d.next[k]).take j ++ [cs[d.next[k][j].toNat]]) = nats ((rowK cs d.next[k]).take j) ++ [vI ((cs[d.next[k][j].toNat] : Nat) : Int)] from List.map_append], by omega, (.of rfl)⟩
  have hge44 : ¬ j < d.next[k].length := by omega
  refine T.exit ?_
  have hjf : j = d.next[k].length := by omega
  have hR : rowI kb kc 3 1 (nats ((rowK cs d.next[k]).take j)) = Rec.itm 3 ⟨kb, kc, (rowK cs d.next[k]).map fun c : Nat => (c : Int)⟩ := by
   rw [List.take_of_length_le (by rw [rowK_length]; omega)]; simp [Rec.itm, Function.comp_def]
  refine T.cut1 (fun ρ O => ∃ (ob2 : Option Addr) (oc2 : Nat) (fb2 : Option Addr) (fc2 : Nat), O = ([oI z4 25 [(vI d.vars), (vI ((cs.getD d.start.toNat 0 : Nat) : Int)), (.slice ob2 (qs.length + 1) oc2), (.slice fb2 (fs.length + 1) fc2)], rowI ob2 oc2 37 1 ((vals qs) ++ [(.slice kb j kc)]), rowI fb2 fc2 4 1 ((bools fs) ++ [(.bool d.final[k])]), oI z3 37 [(.slice cb d.next.length cc)], rowI cb cc 3 1 (nats cs), oI z2 25 [(vI 0), (vI 0), nS, nS], oI z1 25 [(vI d.vars), (vI d.start), (.slice nb d.next.length nc), (.slice fb d.final.length fc)]] ++ (itms 3 (qs ++ [⟨kb, kc, (rowK cs d.next[k]).map fun c : Nat => (c : Int)⟩]))) ∧ Heads [(0, (.agg #[(vI d.vars), (vI d.start), (.slice nb d.next.length nc), (.slice fb d.final.length fc)])), (1, (.pointer (aD z1))), (2, (.pointer (aD z2))), (3, vI 0), (4, (.pointer (aD z3))), (5, vI 0), (6, (.pointer (aD z4))), (7, vI (k : Int)), (8, (.slice vb d.next[k].length vc)), (9, (.slice kb j kc)), (41, (.slice vb d.next[k].length vc)), (42, vI (d.next[k].length : Int)), (43, vI (j : Int))] ρ) ?_ ?_
  ·refine T.treeT [oI z4 25 [(vI d.vars), (vI ((cs.getD d.start.toNat 0 : Nat) : Int)), (.slice ob qs.length oc), (.slice fb9 fs.length fc9)], oI z1 25 [(vI d.vars), (vI d.start), (.slice nb d.next.length nc), (.slice fb d.final.length fc)]] [15, 17] 18 mixed rfl (Sub.pick0 [1, 6] [rowI kb kc 3 1 (nats ((rowK cs d.next[k]).take j)), oI z4 25 [(vI d.vars), (vI ((cs.getD d.start.toNat 0 : Nat) : Int)), (.slice ob qs.length oc), (.slice fb9 fs.length fc9)], rowI ob oc 37 1 (vals qs), rowI fb9 fc9 4 1 (bools fs), oI z3 37 [(.slice cb d.next.length cc)], rowI cb cc 3 1 (nats cs), oI z2 25 [(vI 0), (vI 0), nS, nS], oI z1 25 [(vI d.vars), (vI d.start), (.slice nb d.next.length nc), (.slice fb d.final.length fc)]] (itms 3 qs) rfl rfl) (fun _ _ _ h => h) ?_
   refine RO.quietTT 0 rfl (by kernel_rfl) (q_fa uT25 rfl inf22 rfl rfl) ?_
   refine RO.quietTT 1 rfl (by kernel_rfl) (q_lb 0 uT22 rfl rfl rfl rfl) ?_
   refine RO.quietTT 2 rfl (by kernel_rfl) (q_move rfl) ?_
   refine RO.quietTT 5 rfl (by kernel_rfl) (q_fa uT25 rfl inf23 rfl rfl) ?_
   refine RO.quietTT 6 rfl (by kernel_rfl) (q_lb 0 uT23 rfl rfl rfl rfl) ?_
   refine RO.quietTT 7 rfl (by kernel_rfl) (q_fa uT25 rfl inf23 rfl rfl) ?_
   refine RO.quietTT 8 rfl (by kernel_rfl) (q_lb 1 uT23 rfl rfl rfl rfl) ?_
   refine RO.quietTT 9 rfl (by kernel_rfl) (q_move rfl) ?_
   refine RO.quietTT 10 rfl (by kernel_rfl) (q_ix (i := k) uT23 inf4 rfl rfl (Sl.o h.final) hkf (by rw [List.length_map]; exact hkf)) ?_
   refine RO.quietTT 11 rfl (by kernel_rfl) (q_ld uT4 rfl rfl (Sl.o h.final) (bools_get hkf)) ?_
   refine RO.forkT [3, 12] (by kernel_rfl) rfl ⟨⟨_, rfl, rfl, l_build1 (v := (.slice kb j kc)) uT22 inf37 rfl rfl rfl (fun zA => ⟨.inr (Sub.pick0 [2, 7] [rowI (aD zA) 1 37 1 [(.slice kb j kc)], rowI kb kc 3 1 (nats ((rowK cs d.next[k]).take j)), oI z4 25 [(vI d.vars), (vI ((cs.getD d.start.toNat 0 : Nat) : Int)), (.slice ob qs.length oc), (.slice fb9 fs.length fc9)], rowI ob oc 37 1 (vals qs), rowI fb9 fc9 4 1 (bools fs), oI z3 37 [(.slice cb d.next.length cc)], rowI cb cc 3 1 (nats cs), oI z2 25 [(vI 0), (vI 0), nS, nS], oI z1 25 [(vI d.vars), (vI d.start), (.slice nb d.next.length nc), (.slice fb d.final.length fc)]] (itms 3 qs) rfl rfl), ?_⟩)⟩, ⟨_, rfl, rfl, l_build1 (v := (.bool d.final[k])) uT23 inf4 rfl rfl rfl (fun zB => ⟨.inr (Sub.pick0 [2, 7] [rowI (aD zB) 1 4 1 [(.bool d.final[k])], rowI kb kc 3 1 (nats ((rowK cs d.next[k]).take j)), oI z4 25 [(vI d.vars), (vI ((cs.getD d.start.toNat 0 : Nat) : Int)), (.slice ob qs.length oc), (.slice fb9 fs.length fc9)], rowI ob oc 37 1 (vals qs), rowI fb9 fc9 4 1 (bools fs), oI z3 37 [(.slice cb d.next.length cc)], rowI cb cc 3 1 (nats cs), oI z2 25 [(vI 0), (vI 0), nS, nS], oI z1 25 [(vI d.vars), (vI d.start), (.slice nb d.next.length nc), (.slice fb d.final.length fc)]] (itms 3 qs) rfl rfl), ?_⟩)⟩, trivial⟩ (by kernel_rfl)
   ·refine RO.forkT [4, 12] (by kernel_rfl) rfl ⟨⟨_, rfl, rfl, l_append 3 uT22 uT22 inf37 rfl rfl rfl rfl (by rw [List.length_map]; omega) (by decide) (Src.row (j := 0) rfl (by simp)) (by simp [oneB]) (by omega) (by decide) (by decide) (fun ob2 oc2 => ⟨.inr (Sub.pick0 [2, 7] [rowI (aD zA) 1 37 1 [(.slice kb j kc)], rowI kb kc 3 1 (nats ((rowK cs d.next[k]).take j)), oI z4 25 [(vI d.vars), (vI ((cs.getD d.start.toNat 0 : Nat) : Int)), (.slice ob qs.length oc), (.slice fb9 fs.length fc9)], rowI ob2 oc2 37 1 ((vals qs) ++ [(.slice kb j kc)]), rowI fb9 fc9 4 1 (bools fs), oI z3 37 [(.slice cb d.next.length cc)], rowI cb cc 3 1 (nats cs), oI z2 25 [(vI 0), (vI 0), nS, nS], oI z1 25 [(vI d.vars), (vI d.start), (.slice nb d.next.length nc), (.slice fb d.final.length fc)]] (itms 3 qs) rfl rfl), ?_⟩)⟩, ⟨_, rfl, rfl, l_build1 (v := (.bool d.final[k])) uT23 inf4 rfl rfl rfl (fun zB => ⟨.inr (Sub.pick0 [3, 8] [rowI (aD zB) 1 4 1 [(.bool d.final[k])], rowI (aD zA) 1 37 1 [(.slice kb j kc)], rowI kb kc 3 1 (nats ((rowK cs d.next[k]).take j)), oI z4 25 [(vI d.vars), (vI ((cs.getD d.start.toNat 0 : Nat) : Int)), (.slice ob qs.length oc), (.slice fb9 fs.length fc9)], rowI ob oc 37 1 (vals qs), rowI fb9 fc9 4 1 (bools fs), oI z3 37 [(.slice cb d.next.length cc)], rowI cb cc 3 1 (nats cs), oI z2 25 [(vI 0), (vI 0), nS, nS], oI z1 25 [(vI d.vars), (vI d.start), (.slice nb d.next.length nc), (.slice fb d.final.length fc)]] (itms 3 qs) rfl rfl), ?_⟩)⟩, trivial⟩ (by kernel_rfl)
    ·refine RO.quietE 14 rfl (by kernel_rfl) (q_fa uT25 rfl inf22 rfl rfl) ?_
     refine RO.forkT [12] (by kernel_rfl) rfl ⟨⟨_, rfl, rfl, l_build1 (v := (.bool d.final[k])) uT23 inf4 rfl rfl rfl (fun zB => ⟨.inr (Sub.pick0 [3, 8] [rowI (aD zB) 1 4 1 [(.bool d.final[k])], rowI (aD zA) 1 37 1 [(.slice kb j kc)], rowI kb kc 3 1 (nats ((rowK cs d.next[k]).take j)), oI z4 25 [(vI d.vars), (vI ((cs.getD d.start.toNat 0 : Nat) : Int)), (.slice ob qs.length oc), (.slice fb9 fs.length fc9)], rowI ob2 oc2 37 1 ((vals qs) ++ [(.slice kb j kc)]), rowI fb9 fc9 4 1 (bools fs), oI z3 37 [(.slice cb d.next.length cc)], rowI cb cc 3 1 (nats cs), oI z2 25 [(vI 0), (vI 0), nS, nS], oI z1 25 [(vI d.vars), (vI d.start), (.slice nb d.next.length nc), (.slice fb d.final.length fc)]] (itms 3 qs) rfl rfl), ?_⟩)⟩, trivial⟩ (by kernel_rfl)
     refine RO.forkT [13] (by kernel_rfl) rfl ⟨⟨_, rfl, rfl, l_append 5 uT23 uT23 inf4 rfl rfl rfl rfl (by rw [List.length_map]; omega) (by decide) (Src.row (j := 0) rfl (by simp)) (by simp [oneB]) (by omega) (by decide) (by decide) (fun fb2 fc2 => ⟨.inr (Sub.pick0 [3, 8] [rowI (aD zB) 1 4 1 [(.bool d.final[k])], rowI (aD zA) 1 37 1 [(.slice kb j kc)], rowI kb kc 3 1 (nats ((rowK cs d.next[k]).take j)), oI z4 25 [(vI d.vars), (vI ((cs.getD d.start.toNat 0 : Nat) : Int)), (.slice ob qs.length oc), (.slice fb9 fs.length fc9)], rowI ob2 oc2 37 1 ((vals qs) ++ [(.slice kb j kc)]), rowI fb2 fc2 4 1 ((bools fs) ++ [(.bool d.final[k])]), oI z3 37 [(.slice cb d.next.length cc)], rowI cb cc 3 1 (nats cs), oI z2 25 [(vI 0), (vI 0), nS, nS], oI z1 25 [(vI d.vars), (vI d.start), (.slice nb d.next.length nc), (.slice fb d.final.length fc)]] (itms 3 qs) rfl rfl), ?_⟩)⟩, trivial⟩ (by kernel_rfl)
     refine RO.forkT [15] (by kernel_rfl) rfl ⟨⟨_, rfl, rfl, l_sb (v := (.slice ob2 (qs.length + 1) oc2)) (vs := [(.slice ob2 (qs.length + 1) oc2)]) 3 inf22 rfl rfl rfl rfl rfl rfl (by simp [putL]) ⟨.inl (by decide), ?_⟩⟩, trivial⟩ (by kernel_rfl)
     refine RO.quietE 16 rfl (by kernel_rfl) (q_fa uT25 rfl inf23 rfl rfl) ?_
     refine RO.forkT [17] (by kernel_rfl) rfl ⟨⟨_, rfl, rfl, l_sb (v := (.slice fb2 (fs.length + 1) fc2)) (vs := [(.slice fb2 (fs.length + 1) fc2)]) 3 inf23 rfl rfl rfl rfl rfl rfl (by simp [putL]) ⟨.inl (by decide), ?_⟩⟩, trivial⟩ (by kernel_rfl)
     exact RO.fin (by kernel_rfl) ⟨ob2, oc2, fb2, fc2, rfl, (.of rfl)⟩ (by show Sub _ ([rowI (aD zB) 1 4 1 [(.bool d.final[k])], rowI (aD zA) 1 37 1 [(.slice kb j kc)], rowI kb kc 3 1 (nats ((rowK cs d.next[k]).take j)), oI z4 25 [(vI d.vars), (vI ((cs.getD d.start.toNat 0 : Nat) : Int)), (.slice ob2 (qs.length + 1) oc2), (.slice fb2 (fs.length + 1) fc2)], rowI ob2 oc2 37 1 ((vals qs) ++ [(.slice kb j kc)]), rowI fb2 fc2 4 1 ((bools fs) ++ [(.bool d.final[k])]), oI z3 37 [(.slice cb d.next.length cc)], rowI cb cc 3 1 (nats cs), oI z2 25 [(vI 0), (vI 0), nS, nS], oI z1 25 [(vI d.vars), (vI d.start), (.slice nb d.next.length nc), (.slice fb d.final.length fc)]] ++ itms 3 qs); rw [hR]; exact Sub.ca [rowI (aD zB) 1 4 1 [(.bool d.final[k])], rowI (aD zA) 1 37 1 [(.slice kb j kc)]])
    refine RO.forkT [4] (by kernel_rfl) rfl ⟨⟨_, rfl, rfl, l_append 4 uT22 uT22 inf37 rfl rfl rfl rfl (by rw [List.length_map]; omega) (by decide) (Src.row (j := 1) rfl (by simp)) (by simp [oneB]) (by omega) (by decide) (by decide) (fun ob2 oc2 => ⟨.inr (Sub.pick0 [3, 8] [rowI (aD zB) 1 4 1 [(.bool d.final[k])], rowI (aD zA) 1 37 1 [(.slice kb j kc)], rowI kb kc 3 1 (nats ((rowK cs d.next[k]).take j)), oI z4 25 [(vI d.vars), (vI ((cs.getD d.start.toNat 0 : Nat) : Int)), (.slice ob qs.length oc), (.slice fb9 fs.length fc9)], rowI ob2 oc2 37 1 ((vals qs) ++ [(.slice kb j kc)]), rowI fb9 fc9 4 1 (bools fs), oI z3 37 [(.slice cb d.next.length cc)], rowI cb cc 3 1 (nats cs), oI z2 25 [(vI 0), (vI 0), nS, nS], oI z1 25 [(vI d.vars), (vI d.start), (.slice nb d.next.length nc), (.slice fb d.final.length fc)]] (itms 3 qs) rfl rfl), ?_⟩)⟩, trivial⟩ (by kernel_rfl)
    refine RO.quietE 14 rfl (by kernel_rfl) (q_fa uT25 rfl inf22 rfl rfl) ?_
    refine RO.forkT [13] (by kernel_rfl) rfl ⟨⟨_, rfl, rfl, l_append 5 uT23 uT23 inf4 rfl rfl rfl rfl (by rw [List.length_map]; omega) (by decide) (Src.row (j := 0) rfl (by simp)) (by simp [oneB]) (by omega) (by decide) (by decide) (fun fb2 fc2 => ⟨.inr (Sub.pick0 [3, 8] [rowI (aD zB) 1 4 1 [(.bool d.final[k])], rowI (aD zA) 1 37 1 [(.slice kb j kc)], rowI kb kc 3 1 (nats ((rowK cs d.next[k]).take j)), oI z4 25 [(vI d.vars), (vI ((cs.getD d.start.toNat 0 : Nat) : Int)), (.slice ob qs.length oc), (.slice fb9 fs.length fc9)], rowI ob2 oc2 37 1 ((vals qs) ++ [(.slice kb j kc)]), rowI fb2 fc2 4 1 ((bools fs) ++ [(.bool d.final[k])]), oI z3 37 [(.slice cb d.next.length cc)], rowI cb cc 3 1 (nats cs), oI z2 25 [(vI 0), (vI 0), nS, nS], oI z1 25 [(vI d.vars), (vI d.start), (.slice nb d.next.length nc), (.slice fb d.final.length fc)]] (itms 3 qs) rfl rfl), ?_⟩)⟩, trivial⟩ (by kernel_rfl)
    refine RO.forkT [15] (by kernel_rfl) rfl ⟨⟨_, rfl, rfl, l_sb (v := (.slice ob2 (qs.length + 1) oc2)) (vs := [(.slice ob2 (qs.length + 1) oc2)]) 3 inf22 rfl rfl rfl rfl rfl rfl (by simp [putL]) ⟨.inl (by decide), ?_⟩⟩, trivial⟩ (by kernel_rfl)
    refine RO.quietE 16 rfl (by kernel_rfl) (q_fa uT25 rfl inf23 rfl rfl) ?_
    refine RO.forkT [17] (by kernel_rfl) rfl ⟨⟨_, rfl, rfl, l_sb (v := (.slice fb2 (fs.length + 1) fc2)) (vs := [(.slice fb2 (fs.length + 1) fc2)]) 3 inf23 rfl rfl rfl rfl rfl rfl (by simp [putL]) ⟨.inl (by decide), ?_⟩⟩, trivial⟩ (by kernel_rfl)
    exact RO.fin (by kernel_rfl) ⟨ob2, oc2, fb2, fc2, rfl, (.of rfl)⟩ (by show Sub _ ([rowI (aD zB) 1 4 1 [(.bool d.final[k])], rowI (aD zA) 1 37 1 [(.slice kb j kc)], rowI kb kc 3 1 (nats ((rowK cs d.next[k]).take j)), oI z4 25 [(vI d.vars), (vI ((cs.getD d.start.toNat 0 : Nat) : Int)), (.slice ob2 (qs.length + 1) oc2), (.slice fb2 (fs.length + 1) fc2)], rowI ob2 oc2 37 1 ((vals qs) ++ [(.slice kb j kc)]), rowI fb2 fc2 4 1 ((bools fs) ++ [(.bool d.final[k])]), oI z3 37 [(.slice cb d.next.length cc)], rowI cb cc 3 1 (nats cs), oI z2 25 [(vI 0), (vI 0), nS, nS], oI z1 25 [(vI d.vars), (vI d.start), (.slice nb d.next.length nc), (.slice fb d.final.length fc)]] ++ itms 3 qs); rw [hR]; exact Sub.ca [rowI (aD zB) 1 4 1 [(.bool d.final[k])], rowI (aD zA) 1 37 1 [(.slice kb j kc)]])
   refine RO.forkT [3] (by kernel_rfl) rfl ⟨⟨_, rfl, rfl, l_build1 (v := (.slice kb j kc)) uT22 inf37 rfl rfl rfl (fun zA => ⟨.inr (Sub.pick0 [3, 8] [rowI (aD zA) 1 37 1 [(.slice kb j kc)], rowI (aD zB) 1 4 1 [(.bool d.final[k])], rowI kb kc 3 1 (nats ((rowK cs d.next[k]).take j)), oI z4 25 [(vI d.vars), (vI ((cs.getD d.start.toNat 0 : Nat) : Int)), (.slice ob qs.length oc), (.slice fb9 fs.length fc9)], rowI ob oc 37 1 (vals qs), rowI fb9 fc9 4 1 (bools fs), oI z3 37 [(.slice cb d.next.length cc)], rowI cb cc 3 1 (nats cs), oI z2 25 [(vI 0), (vI 0), nS, nS], oI z1 25 [(vI d.vars), (vI d.start), (.slice nb d.next.length nc), (.slice fb d.final.length fc)]] (itms 3 qs) rfl rfl), ?_⟩)⟩, trivial⟩ (by kernel_rfl)
   refine RO.forkT [4] (by kernel_rfl) rfl ⟨⟨_, rfl, rfl, l_append 4 uT22 uT22 inf37 rfl rfl rfl rfl (by rw [List.length_map]; omega) (by decide) (Src.row (j := 0) rfl (by simp)) (by simp [oneB]) (by omega) (by decide) (by decide) (fun ob2 oc2 => ⟨.inr (Sub.pick0 [3, 8] [rowI (aD zA) 1 37 1 [(.slice kb j kc)], rowI (aD zB) 1 4 1 [(.bool d.final[k])], rowI kb kc 3 1 (nats ((rowK cs d.next[k]).take j)), oI z4 25 [(vI d.vars), (vI ((cs.getD d.start.toNat 0 : Nat) : Int)), (.slice ob qs.length oc), (.slice fb9 fs.length fc9)], rowI ob2 oc2 37 1 ((vals qs) ++ [(.slice kb j kc)]), rowI fb9 fc9 4 1 (bools fs), oI z3 37 [(.slice cb d.next.length cc)], rowI cb cc 3 1 (nats cs), oI z2 25 [(vI 0), (vI 0), nS, nS], oI z1 25 [(vI d.vars), (vI d.start), (.slice nb d.next.length nc), (.slice fb d.final.length fc)]] (itms 3 qs) rfl rfl), ?_⟩)⟩, trivial⟩ (by kernel_rfl)
   refine RO.quietE 14 rfl (by kernel_rfl) (q_fa uT25 rfl inf22 rfl rfl) ?_
   refine RO.forkT [13] (by kernel_rfl) rfl ⟨⟨_, rfl, rfl, l_append 5 uT23 uT23 inf4 rfl rfl rfl rfl (by rw [List.length_map]; omega) (by decide) (Src.row (j := 1) rfl (by simp)) (by simp [oneB]) (by omega) (by decide) (by decide) (fun fb2 fc2 => ⟨.inr (Sub.pick0 [3, 8] [rowI (aD zA) 1 37 1 [(.slice kb j kc)], rowI (aD zB) 1 4 1 [(.bool d.final[k])], rowI kb kc 3 1 (nats ((rowK cs d.next[k]).take j)), oI z4 25 [(vI d.vars), (vI ((cs.getD d.start.toNat 0 : Nat) : Int)), (.slice ob qs.length oc), (.slice fb9 fs.length fc9)], rowI ob2 oc2 37 1 ((vals qs) ++ [(.slice kb j kc)]), rowI fb2 fc2 4 1 ((bools fs) ++ [(.bool d.final[k])]), oI z3 37 [(.slice cb d.next.length cc)], rowI cb cc 3 1 (nats cs), oI z2 25 [(vI 0), (vI 0), nS, nS], oI z1 25 [(vI d.vars), (vI d.start), (.slice nb d.next.length nc), (.slice fb d.final.length fc)]] (itms 3 qs) rfl rfl), ?_⟩)⟩, trivial⟩ (by kernel_rfl)
   refine RO.forkT [15] (by kernel_rfl) rfl ⟨⟨_, rfl, rfl, l_sb (v := (.slice ob2 (qs.length + 1) oc2)) (vs := [(.slice ob2 (qs.length + 1) oc2)]) 3 inf22 rfl rfl rfl rfl rfl rfl (by simp [putL]) ⟨.inl (by decide), ?_⟩⟩, trivial⟩ (by kernel_rfl)
   refine RO.quietE 16 rfl (by kernel_rfl) (q_fa uT25 rfl inf23 rfl rfl) ?_
   refine RO.forkT [17] (by kernel_rfl) rfl ⟨⟨_, rfl, rfl, l_sb (v := (.slice fb2 (fs.length + 1) fc2)) (vs := [(.slice fb2 (fs.length + 1) fc2)]) 3 inf23 rfl rfl rfl rfl rfl rfl (by simp [putL]) ⟨.inl (by decide), ?_⟩⟩, trivial⟩ (by kernel_rfl)
   exact RO.fin (by kernel_rfl) ⟨ob2, oc2, fb2, fc2, rfl, (.of rfl)⟩ (by show Sub _ ([rowI (aD zA) 1 37 1 [(.slice kb j kc)], rowI (aD zB) 1 4 1 [(.bool d.final[k])], rowI kb kc 3 1 (nats ((rowK cs d.next[k]).take j)), oI z4 25 [(vI d.vars), (vI ((cs.getD d.start.toNat 0 : Nat) : Int)), (.slice ob2 (qs.length + 1) oc2), (.slice fb2 (fs.length + 1) fc2)], rowI ob2 oc2 37 1 ((vals qs) ++ [(.slice kb j kc)]), rowI fb2 fc2 4 1 ((bools fs) ++ [(.bool d.final[k])]), oI z3 37 [(.slice cb d.next.length cc)], rowI cb cc 3 1 (nats cs), oI z2 25 [(vI 0), (vI 0), nS, nS], oI z1 25 [(vI d.vars), (vI d.start), (.slice nb d.next.length nc), (.slice fb d.final.length fc)]] ++ itms 3 qs); rw [hR]; exact Sub.ca [rowI (aD zA) 1 37 1 [(.slice kb j kc)], rowI (aD zB) 1 4 1 [(.bool d.final[k])]])
  rintro ρ O ⟨ob2, oc2, fb2, fc2, rfl, hH⟩
  obtain ⟨ρ0, rfl⟩ := hH.elim
  clear hH
  refine .inl ⟨rfl, ob2, fb2, oc2, fc2, qs ++ [⟨kb, kc, (rowK cs d.next[k]).map fun c : Nat => (c : Int)⟩], fs ++ [d.final[k]], ?_, by omega, ?_, ?_⟩
  ·simp [Rec.val, rowK_length, hjf]
  ·rw [hqn2, ← hqs]; simp
  ·rw [hqn2, hfs]
 ·refine ⟨none, none, 0, 0, [], [], ?_, Nat.zero_le _, rfl, rfl⟩
  rfl
 rintro v O' (⟨ob, fb9, oc, fc9, qs, fs, rfl, hk, hqs, hfs⟩ | hF)
 rotate_left
 ·exact hF.elim
 refine ⟨none, _, rfl, ?_⟩
 refine T.s ?_
 have hql : qs.length = (quo d cs).next.length := by rw [show qs.length = (nums qs).length by simp, hqs]; rfl
 obtain rfl : fs = (quo d cs).final := hfs
 rw [hql]
 refine T.rg (TO.q (q_la 0 uT25 rfl inf25 rfl rfl rfl) ?_)
 have hk72 := fun (w1 : World) (hI : Inv w ([oI z4 25 [(vI d.vars), (vI ((cs.getD d.start.toNat 0 : Nat) : Int)), (.slice ob ((quo d cs).next.length) oc), (.slice fb9 ((quo d cs).final.length) fc9)], rowI ob oc 37 1 (vals qs), rowI fb9 fc9 4 1 (bools (quo d cs).final), oI z3 37 [(.slice cb d.next.length cc)], rowI cb cc 3 1 (nats cs), oI z2 25 [(vI 0), (vI 0), nS, nS], oI z1 25 [(vI d.vars), (vI d.start), (.slice nb d.next.length nc), (.slice fb d.final.length fc)]] ++ (itms 3 qs)) w1) => (haveI := tbz hI; renumOk w1 (quo d cs) ob fb9 oc fc9 (vals qs) ⟨hI.slOf (mG 1 rfl), (show nums qs = (quo d cs).next from hqs) ▸ hI.recs (fun q hq => List.mem_append_right _ (List.mem_map_of_mem (f := Rec.itm 3) hq)), hI.slOf (mG 2 rfl)⟩ hqv hqn)
 refine TO.l rfl (l_call ent74 (CallT.op hk72) rfl ?_)
 clear hk72
 rintro v O' ⟨N, rfl, nb', nc', fb', fc', qs', rfl, rfl, hnx⟩
 refine TO.sub (O' := ([rowI nb' nc' 37 1 (vals qs'), rowI fb' fc' 4 1 (bools (renum (quo d cs)).final), oI z4 25 [(vI d.vars), (vI ((cs.getD d.start.toNat 0 : Nat) : Int)), (.slice ob ((quo d cs).next.length) oc), (.slice fb9 ((quo d cs).final.length) fc9)], rowI ob oc 37 1 (vals qs), rowI fb9 fc9 4 1 (bools (quo d cs).final), oI z3 37 [(.slice cb d.next.length cc)], rowI cb cc 3 1 (nats cs), oI z2 25 [(vI 0), (vI 0), nS, nS], oI z1 25 [(vI d.vars), (vI d.start), (.slice nb d.next.length nc), (.slice fb d.final.length fc)]] ++ ((itms 3 qs') ++ (itms 3 qs)))) (Sub.ca []) ?_
 refine TO.q (q_extract (vs := _) rfl rfl) (TO.q (q_extract (vs := _) rfl rfl) (TO.l rfl (l_sb (v := (.agg #[(vI (renum (quo d cs)).vars), (vI (renum (quo d cs)).start), (.slice nb' ((renum (quo d cs)).next.length) nc'), (.slice fb' ((renum (quo d cs)).final.length) fc')])) (vs := [(vI (renum (quo d cs)).vars), (vI (renum (quo d cs)).start), (.slice nb' ((renum (quo d cs)).next.length) nc'), (.slice fb' ((renum (quo d cs)).final.length) fc')]) 7 inf25 rfl rfl rfl rfl rfl rfl (by simp [putL]) ?_)))
 refine TO.qa rfl (TO.nl (T.ret (Res.drop ?_)))
 refine Res.cell1b (vI 0) (i := 7) Tryz.results34 uT25 rfl inf25 rfl rfl rfl rfl ?_
 exact ⟨[rowI nb' nc' 37 1 (vals qs'), rowI fb' fc' 4 1 (bools (renum (quo d cs)).final)] ++ itms 3 qs', Sub.ca ([oI z4 25 [(vI d.vars), (vI ((cs.getD d.start.toNat 0 : Nat) : Int)), (.slice ob ((quo d cs).next.length) oc), (.slice fb9 ((quo d cs).final.length) fc9)], rowI ob oc 37 1 (vals qs), rowI fb9 fc9 4 1 (bools (quo d cs).final), oI z3 37 [(.slice cb d.next.length cc)], rowI cb cc 3 1 (nats cs), oI z2 25 [(vI (renum (quo d cs)).vars), (vI (renum (quo d cs)).start), (.slice nb' ((renum (quo d cs)).next.length) nc'), (.slice fb' ((renum (quo d cs)).final.length) fc')], oI z1 25 [(vI d.vars), (vI d.start), (.slice nb d.next.length nc), (.slice fb d.final.length fc)]] ++ itms 3 qs), nb', nc', fb', fc', qs', rfl, rfl, hnx⟩
end Go.Proofs.YtohkmggbfcnapaaGreatDoor


namespace Go.Proofs.YtohkmggbfcnapaaGreatDoor
open Go.Lx Go.RowKit _root_.Go.Proofs.Tryz
end Go.Proofs.YtohkmggbfcnapaaGreatDoor


namespace Go.Proofs.YtohkmggbfcnapaaGreatDoor
open Go.Lx Go.RowKit _root_.Go.Proofs.Tryz
theorem differC (w : World) [Tab Tryz.prog w] (d : DFA) (nb fb : Option Addr) (nc fc : Nat) (vs : List Value) (h : DfaAt w d nb vs fb) (hv : Valid d) (hn : d.next.length < 10000) (k : Int) :
  PureT Tryz.prog 124 [.agg (dfaCells d nb nc fb fc).toArray, vI k] w fun v N => ∃ b c qs, v = .slice b d.next.length c ∧ N = rowI b c 23 1 (bvals qs) :: bitms 4 qs ∧ MatOk d (min k.toNat d.next.length) d.next.length qs := by
 refine CallT.enter func124 rfl ntmps124 rfl ?_
 have hb : d.next.length < 9223372036854775807 := by omega
 have hvl := h.rows.1
 have hfl := hv.fin
 have hww := hv.width
 refine T.s (T.rg (TO.l rfl (l_box (v := (.agg #[(vI d.vars), (vI d.start), (.slice nb d.next.length nc), (.slice fb d.final.length fc)])) (cs := [(vI d.vars), (vI d.start), (.slice nb d.next.length nc), (.slice fb d.final.length fc)]) rfl rfl (fun z1 => ?_))))
 refine TO.qa rfl (TO.nl (T.s (T.rg (TO.q (q_fa underlying25 rfl inf22 rfl rfl) (TO.q (q_lb 0 underlying22 rfl rfl rfl rfl) (TO.q (q_len underlying22 rfl) (TO.qa rfl (TO.nl (T.s (T.rg (TO.qm rfl (TO.l rfl (l_makeSlice (m := d.next.length) underlying155 inf23 rfl rfl (by omega) (by omega) (fun z2 => ?_))))))))))))))
 refine TO.qa rfl (TO.nl (T.s (T.s (T.rg (TO.qa rfl (TO.nl (T.block ?_)))))))
 refine T.loop (fun (s : Nat) ρ O => ∃ (qs : List BRec), O = ([rowI (aD z2) d.next.length 23 1 ((bvals qs) ++ (List.replicate (d.next.length - s) nS)), oI z1 25 [(vI d.vars), (vI d.start), (.slice nb d.next.length nc), (.slice fb d.final.length fc)]] ++ (bitms 4 qs)) ∧ s ≤ d.next.length ∧ MatOk d 0 s qs ∧ Heads [(0, (.agg #[(vI d.vars), (vI d.start), (.slice nb d.next.length nc), (.slice fb d.final.length fc)])), (1, vI k), (2, (.pointer (aD z1))), (4, nS), (5, vI (d.next.length : Int)), (6, (.slice (aD z2) d.next.length d.next.length)), (7, vI (s : Int))] ρ) (fun s => d.next.length - s) 0 ?_ ?_
 ·exact ⟨[], rfl, Nat.zero_le _, rfl, (.of rfl)⟩
 rintro s ρ O ⟨qs, rfl, hs, hM, hH⟩
 obtain ⟨ρ0, rfl⟩ := hH.elim
 clear hH
 refine T.s (T.s (T.rg (TO.qm rfl (TO.qm rfl (TO.q (q_lss rfl rfl) (TO.nl (T.condP rfl (fun hc => ?_) (fun hc => ?_))))))))
 ·have hlt21 : s < d.next.length := by omega
  have hql := hM.len
  have hsf : s < d.final.length := by omega
  refine T.skip (T.s (T.block (T.s (T.rg (TO.qm rfl (TO.qm rfl (TO.qm rfl (TO.l rfl (l_makeSlice (m := d.next.length) underlying23 inf4 rfl rfl (by omega) (by omega) (fun zX => ?_))))))))))
  refine TO.q (q_ix (i := s) underlying155 inf23 rfl rfl (rowO (mG 1 rfl)) hlt21 (by simp; omega)) (TO.l rfl (l_st (j := s) (v := (.slice (aD zX) d.next.length d.next.length)) (vs := [(.slice (aD zX) d.next.length d.next.length)]) (cs := (bvals qs) ++ (List.replicate (d.next.length - s) nS)) 1 inf23 rfl rfl rfl rfl rfl (by simp) rfl (by first | (simp; omega) | (simp_all; omega)) ?_))
  refine TO.sub (O' := ([rowI (aD zX) d.next.length 4 1 (List.replicate d.next.length (.bool false)), rowI (aD z2) d.next.length 23 1 ((bvals qs) ++ ((.slice (aD zX) d.next.length d.next.length) :: (List.replicate (d.next.length - (s + 1)) nS))), oI z1 25 [(vI d.vars), (vI d.start), (.slice nb d.next.length nc), (.slice fb d.final.length fc)]] ++ (bitms 4 qs))) (by rw [show putL ((bvals qs) ++ (List.replicate (d.next.length - s) nS)) s [(.slice (aD zX) d.next.length d.next.length)] = (bvals qs) ++ ((.slice (aD zX) d.next.length d.next.length) :: (List.replicate (d.next.length - (s + 1)) nS)) from by rw [← hole_set (by simpa using hql) hlt21]; simp [putL]]; exact Sub.of (List.Sublist.refl _)) ?_
  refine TO.nl (T.s (T.rg (TO.qa rfl (TO.nl (T.block ?_)))))
  refine T.loop (fun (t : Nat) ρ O => O = ([rowI (aD zX) d.next.length 4 1 (bools (fillB (dif d 0 s) d.next.length t)), rowI (aD z2) d.next.length 23 1 ((bvals qs) ++ ((.slice (aD zX) d.next.length d.next.length) :: (List.replicate (d.next.length - (s + 1)) nS))), oI z1 25 [(vI d.vars), (vI d.start), (.slice nb d.next.length nc), (.slice fb d.final.length fc)]] ++ (bitms 4 qs)) ∧ t ≤ d.next.length ∧ Heads [(0, (.agg #[(vI d.vars), (vI d.start), (.slice nb d.next.length nc), (.slice fb d.final.length fc)])), (1, vI k), (2, (.pointer (aD z1))), (4, nS), (5, vI (d.next.length : Int)), (6, (.slice (aD z2) d.next.length d.next.length)), (7, vI (s : Int)), (8, vI (t : Int))] ρ) (fun t => d.next.length - t) 0 ?_ ?_
  ·exact ⟨by rw [fillB_zero]; simp, Nat.zero_le _, (.of rfl)⟩
  rintro t ρ O ⟨rfl, ht, hH⟩
  obtain ⟨ρ0, rfl⟩ := hH.elim
  clear hH
  refine T.s (T.s (T.rg (TO.qm rfl (TO.qm rfl (TO.q (q_lss rfl rfl) (TO.nl (T.condP rfl (fun hc => ?_) (fun hc => ?_))))))))
  ·have hlt31 : t < d.next.length := by omega
   have htf : t < d.final.length := by omega
   have hd0 : (d.final[s] != d.final[t]) = dif d 0 s t := by simp [dif, finN, hsf, htf]
   refine T.skip (T.s (T.block ?_))
   refine T.draws _ [(0, 0), (1, 0), (2, 0), (3, 0), (4, 0), (5, 0), (6, 0), (7, 0), (8, 0), (9, 0), (10, 0), (11, 0), (12, 0), (13, 0), (14, 0), (15, 0), (16, 0), (17, 2)] mixed (drawF_ok (by kernel_rfl)) (Sub.of (List.Sublist.refl _)) (fun _ _ _ h => h) ?_
   refine DO.q rfl (q_move rfl) (DO.q rfl (q_move rfl) (DO.q rfl (q_ix (i := s) underlying155 inf23 rfl rfl (rowO (mG 1 rfl)) hlt21 (by simp; omega)) (DO.q rfl (q_ld underlying23 rfl rfl (rowO (mG 1 rfl)) (hole_get (by simpa using hql))) (DO.q rfl (q_move rfl) (DO.q rfl (q_fa underlying25 rfl inf23 rfl rfl) (DO.q rfl (q_lb 2 underlying23 rfl rfl rfl rfl) (DO.q rfl (q_move rfl) (DO.q rfl (q_ix (i := s) underlying23 inf4 rfl rfl (Sl.o h.final) hsf (by rw [List.length_map]; exact hsf)) (DO.q rfl (q_ld underlying4 rfl rfl (Sl.o h.final) (bools_get hsf)) (DO.q rfl (q_fa underlying25 rfl inf23 rfl rfl) (DO.q rfl (q_lb 2 underlying23 rfl rfl rfl rfl) (DO.q rfl (q_move rfl) (DO.q rfl (q_ix (i := t) underlying23 inf4 rfl rfl (Sl.o h.final) htf (by rw [List.length_map]; exact htf)) (DO.q rfl (q_ld underlying4 rfl rfl (Sl.o h.final) (bools_get htf)) (DO.q rfl (q_bneq underlying4 rfl rfl) (DO.q rfl (q_ix (i := t) underlying23 inf4 rfl rfl (rowO (mG 0 rfl)) hlt31 (by rw [List.length_map, fillB_length]; exact hlt31)) ?_))))))))))))))))
   refine DO.last rfl rfl (l_st (j := t) (v := .bool (d.final[s] != d.final[t])) (vs := [(.bool (d.final[s] != d.final[t]))]) (cs := bools (fillB (dif d 0 s) d.next.length t)) 0 inf4 rfl rfl rfl rfl rfl (by simp) rfl (by rw [List.length_map, fillB_length]; exact hlt31) ?_)
   refine DO.sub (O' := ([rowI (aD zX) d.next.length 4 1 (bools (fillB (dif d 0 s) d.next.length (t + 1))), rowI (aD z2) d.next.length 23 1 ((bvals qs) ++ ((.slice (aD zX) d.next.length d.next.length) :: (List.replicate (d.next.length - (s + 1)) nS))), oI z1 25 [(vI d.vars), (vI d.start), (.slice nb d.next.length nc), (.slice fb d.final.length fc)]] ++ (bitms 4 qs))) (by rw [show putL (bools (fillB (dif d 0 s) d.next.length t)) t [(.bool (d.final[s] != d.final[t]))] = bools (fillB (dif d 0 s) d.next.length (t + 1)) from by rw [← fillB_set hlt31 hd0]; simp [putL]]; exact Sub.of (List.Sublist.refl _)) ?_
   refine DO.done ?_
   refine T.rg (TO.qm rfl (TO.q (q_inc rfl rfl (by omega)) (TO.qa rfl (TO.nl ?_))))
   exact ⟨t + 1, by omega, rfl, by omega, (.of rfl)⟩
  have hge31 : ¬ t < d.next.length := by omega
  refine T.exit ?_
  refine T.rg (TO.qm rfl (TO.q (q_inc rfl rfl (by omega)) (TO.qa rfl ?_)))
  have hR : rowI (aD zX) d.next.length 4 1 (bools (fillB (dif d 0 s) d.next.length t)) = BRec.itm 4 ⟨(aD zX), d.next.length, difRow d 0 s⟩ := by
   rw [show t = d.next.length by omega, fillB_full]; rfl
  refine TO.sub (O' := [rowI (aD z2) d.next.length 23 1 ((bvals qs) ++ ((.slice (aD zX) d.next.length d.next.length) :: (List.replicate (d.next.length - (s + 1)) nS))), oI z1 25 [(vI d.vars), (vI d.start), (.slice nb d.next.length nc), (.slice fb d.final.length fc)]] ++ (bitms 4 (qs ++ [⟨(aD zX), d.next.length, difRow d 0 s⟩]))) (by rw [hR]; exact Sub.cnt [] (by intro a; simp only [itms, bitms, oI, List.set_cons_zero, List.set_cons_succ, putL, List.cons_append, List.nil_append, List.append_nil, List.append_assoc, List.map_append, List.map_cons, List.map_nil, cnt_append, cnt_cons, cnt_nil, vI, nS, aD] <;> omega)) ?_
  refine TO.nl ?_
  exact ⟨s + 1, by omega, qs ++ [⟨(aD zX), d.next.length, difRow d 0 s⟩], by simp [BRec.val, difRow_length], by omega, hM.snoc, (.of rfl)⟩
 have hge21 : ¬ s < d.next.length := by omega
 refine T.exit ?_
 refine T.s (T.s (T.rg (TO.qa rfl (TO.nl (T.block ?_)))))
 have hse : s = d.next.length := by omega
 have hR0 : (bvals qs) ++ (List.replicate (d.next.length - s) nS) = bvals qs := by rw [show d.next.length - s = 0 by omega]; simp
 rw [hR0]
 rw [hse] at hM
 refine T.loop (fun (r : Nat) ρ O => ∃ (ob : Option Addr) (oc : Nat) (qs : List BRec), O = ([rowI ob oc 23 1 (bvals qs), oI z1 25 [(vI d.vars), (vI d.start), (.slice nb d.next.length nc), (.slice fb d.final.length fc)]] ++ (bitms 4 qs)) ∧ r ≤ k.toNat ∧ r ≤ d.next.length ∧ MatOk d r d.next.length qs ∧ Heads [(0, (.agg #[(vI d.vars), (vI d.start), (.slice nb d.next.length nc), (.slice fb d.final.length fc)])), (1, vI k), (2, (.pointer (aD z1))), (4, nS), (5, vI (d.next.length : Int)), (6, (.slice ob d.next.length oc)), (9, vI (r : Int))] ρ) (fun r => d.next.length - r) 0 ?_ ?_
 ·exact ⟨_, _, qs, rfl, Nat.zero_le _, Nat.zero_le _, hM, (.of rfl)⟩
 rintro r ρ O ⟨ob, oc, qs, rfl, hr1, hr2, hM, hH⟩
 obtain ⟨ρ0, rfl⟩ := hH.elim
 clear hH
 refine T.s (T.s (T.rg (TO.qm rfl (TO.qm rfl ?_))))
 by_cases hk1 : (r : Int) < k
 ·refine TO.q (QT.toB (q_lss rfl rfl) (decide_eq_true hk1)) ?_
  refine TO.qm rfl (TO.gq rfl rfl (q_move rfl) (TO.gq rfl rfl (q_move rfl) (TO.gq rfl rfl (q_lss rfl rfl) (TO.q (q_pick1 rfl rfl) (TO.nl (T.condP rfl (fun hc => ?_) (fun hc => ?_)))))))
  ·have hlt58 : r < d.next.length := by omega
   refine T.skip (T.s (T.block (T.s (T.rg (TO.qm rfl (TO.l rfl (l_makeSlice (m := d.next.length) underlying155 inf23 rfl rfl (by omega) (by omega) (fun z3 => ?_))))))))
   refine TO.qa rfl (TO.nl (T.s (T.s (T.rg (TO.qa rfl (TO.nl (T.block ?_)))))))
   refine T.loop (fun (s : Nat) ρ O => ∃ (ps : List BRec), O = ([rowI (aD z3) d.next.length 23 1 ((bvals ps) ++ (List.replicate (d.next.length - s) nS)), rowI ob oc 23 1 (bvals qs), oI z1 25 [(vI d.vars), (vI d.start), (.slice nb d.next.length nc), (.slice fb d.final.length fc)]] ++ (bitms 4 ps ++ bitms 4 qs)) ∧ s ≤ d.next.length ∧ MatOk d (r + 1) s ps ∧ Heads [(0, (.agg #[(vI d.vars), (vI d.start), (.slice nb d.next.length nc), (.slice fb d.final.length fc)])), (1, vI k), (2, (.pointer (aD z1))), (4, nS), (5, vI (d.next.length : Int)), (6, (.slice ob d.next.length oc)), (9, vI (r : Int)), (10, (.slice (aD z3) d.next.length d.next.length)), (11, vI (s : Int))] ρ) (fun s => d.next.length - s) 0 ?_ ?_
   ·exact ⟨[], rfl, Nat.zero_le _, rfl, (.of rfl)⟩
   rintro s ρ O ⟨ps, rfl, hs, hM2, hH⟩
   obtain ⟨ρ0, rfl⟩ := hH.elim
   clear hH
   refine T.s (T.s (T.rg (TO.qm rfl (TO.qm rfl (TO.q (q_lss rfl rfl) (TO.nl (T.condP rfl (fun hc => ?_) (fun hc => ?_))))))))
   ·have hlt65 : s < d.next.length := by omega
    have hql := hM2.len
    obtain ⟨qa, ma, ga, la, ea⟩ := hM.get hlt65
    obtain ⟨vb1, vc1, g1, s1⟩ := h.rows.get hlt65
    have hl1 : d.next[s].length = 2 ^ d.vars.toNat := hv.len _ (List.getElem_mem hlt65)
    refine T.skip (T.s (T.block (T.s (T.rg (TO.qm rfl (TO.qm rfl (TO.qm rfl (TO.l rfl (l_makeSlice (m := d.next.length) underlying23 inf4 rfl rfl (by omega) (by omega) (fun zX => ?_))))))))))
    refine TO.q (q_ix (i := s) underlying155 inf23 rfl rfl (rowO (mG 1 rfl)) hlt65 (by simp; omega)) (TO.l rfl (l_st (j := s) (v := (.slice (aD zX) d.next.length d.next.length)) (vs := [(.slice (aD zX) d.next.length d.next.length)]) (cs := (bvals ps) ++ (List.replicate (d.next.length - s) nS)) 1 inf23 rfl rfl rfl rfl rfl (by simp) rfl (by first | (simp; omega) | (simp_all; omega)) ?_))
    refine TO.sub (O' := ([rowI (aD zX) d.next.length 4 1 (List.replicate d.next.length (.bool false)), rowI (aD z3) d.next.length 23 1 ((bvals ps) ++ ((.slice (aD zX) d.next.length d.next.length) :: (List.replicate (d.next.length - (s + 1)) nS))), rowI ob oc 23 1 (bvals qs), oI z1 25 [(vI d.vars), (vI d.start), (.slice nb d.next.length nc), (.slice fb d.final.length fc)]] ++ (bitms 4 ps ++ bitms 4 qs))) (by rw [show putL ((bvals ps) ++ (List.replicate (d.next.length - s) nS)) s [(.slice (aD zX) d.next.length d.next.length)] = (bvals ps) ++ ((.slice (aD zX) d.next.length d.next.length) :: (List.replicate (d.next.length - (s + 1)) nS)) from by rw [← hole_set (by simpa using hql) hlt65]; simp [putL]]; exact Sub.of (List.Sublist.refl _)) ?_
    refine TO.nl (T.s (T.rg (TO.qa rfl (TO.nl (T.block ?_)))))
    refine T.loop (fun (t : Nat) ρ O => O = ([rowI (aD zX) d.next.length 4 1 (bools (fillB (dif d (r + 1) s) d.next.length t)), rowI (aD z3) d.next.length 23 1 ((bvals ps) ++ ((.slice (aD zX) d.next.length d.next.length) :: (List.replicate (d.next.length - (s + 1)) nS))), rowI ob oc 23 1 (bvals qs), oI z1 25 [(vI d.vars), (vI d.start), (.slice nb d.next.length nc), (.slice fb d.final.length fc)]] ++ (bitms 4 ps ++ bitms 4 qs)) ∧ t ≤ d.next.length ∧ Heads [(0, (.agg #[(vI d.vars), (vI d.start), (.slice nb d.next.length nc), (.slice fb d.final.length fc)])), (1, vI k), (2, (.pointer (aD z1))), (4, nS), (5, vI (d.next.length : Int)), (6, (.slice ob d.next.length oc)), (9, vI (r : Int)), (10, (.slice (aD z3) d.next.length d.next.length)), (11, vI (s : Int)), (12, vI (t : Int))] ρ) (fun t => d.next.length - t) 0 ?_ ?_
    ·exact ⟨by rw [fillB_zero]; simp, Nat.zero_le _, (.of rfl)⟩
    rintro t ρ O ⟨rfl, ht, hH⟩
    obtain ⟨ρ0, rfl⟩ := hH.elim
    clear hH
    refine T.s (T.s (T.rg (TO.qm rfl (TO.qm rfl (TO.q (q_lss rfl rfl) (TO.nl (T.condP rfl (fun hc => ?_) (fun hc => ?_))))))))
    ·have hlt75 : t < d.next.length := by omega
     obtain ⟨vb2, vc2, g2, s2⟩ := h.rows.get hlt75
     have hl2 : d.next[t].length = 2 ^ d.vars.toNat := hv.len _ (List.getElem_mem hlt75)
     refine T.skip (T.s (T.block (T.s ?_)))
     refine T.draws _ [(0, 0), (1, 0), (2, 0), (3, 0), (4, 0), (5, 0), (6, 0), (7, 0), (8, 0), (9, 0), (10, 0), (11, 0), (12, 0), (13, 2)] mixed (drawF_ok (by kernel_rfl)) (Sub.of (List.Sublist.refl _)) (fun _ _ _ h => h) ?_
     refine DO.q rfl (q_move rfl) (DO.q rfl (q_move rfl) (DO.q rfl (q_ix (i := s) underlying155 inf23 rfl rfl (rowO (mG 1 rfl)) hlt65 (by simp; omega)) (DO.q rfl (q_ld underlying23 rfl rfl (rowO (mG 1 rfl)) (hole_get (by simpa using hql))) (DO.q rfl (q_move rfl) (DO.q rfl (q_move rfl) (DO.q rfl (q_move rfl) (DO.q rfl (q_ix (i := s) underlying155 inf23 rfl rfl (rowO (mG 2 rfl)) hlt65 (by rw [List.length_map, hM.len]; exact hlt65)) (DO.q rfl (q_ld underlying23 rfl rfl (rowO (mG 2 rfl)) ga) (DO.q rfl (q_move rfl) (DO.q rfl (q_ix (i := t) underlying23 inf4 rfl rfl (fun w hI => hI.slOf (T := 4) (k := 1) (List.mem_append_right _ (List.mem_append_right _ (List.mem_map_of_mem (f := BRec.itm 4) ma)))) hlt75 (la ▸ hlt75)) (DO.q rfl (q_ld underlying4 rfl rfl (fun w hI => hI.slOf (T := 4) (k := 1) (List.mem_append_right _ (List.mem_append_right _ (List.mem_map_of_mem (f := BRec.itm 4) ma)))) (ea t hlt75)) (DO.q rfl (q_ix (i := t) underlying23 inf4 rfl rfl (rowO (mG 0 rfl)) hlt75 (by rw [List.length_map, fillB_length]; exact hlt75)) ?_))))))))))))
     refine DO.last rfl rfl (l_st (j := t) (v := .bool (dif d r s t)) (vs := [(.bool (dif d r s t))]) (cs := bools (fillB (dif d (r + 1) s) d.next.length t)) 0 inf4 rfl rfl rfl rfl rfl (by simp) rfl (by rw [List.length_map, fillB_length]; exact hlt75) ?_)
     refine DO.sub (O' := ([rowI (aD zX) d.next.length 4 1 (bools ((fillB (dif d (r + 1) s) d.next.length t).set t (dif d r s t))), rowI (aD z3) d.next.length 23 1 ((bvals ps) ++ ((.slice (aD zX) d.next.length d.next.length) :: (List.replicate (d.next.length - (s + 1)) nS))), rowI ob oc 23 1 (bvals qs), oI z1 25 [(vI d.vars), (vI d.start), (.slice nb d.next.length nc), (.slice fb d.final.length fc)]] ++ (bitms 4 ps ++ bitms 4 qs))) (by rw [show putL (bools (fillB (dif d (r + 1) s) d.next.length t)) t [(.bool (dif d r s t))] = bools ((fillB (dif d (r + 1) s) d.next.length t).set t (dif d r s t)) from by simp [putL]]; exact Sub.of (List.Sublist.refl _)) ?_
     refine DO.done ?_
     refine T.s (T.rg (TO.qa rfl (TO.nl (T.block ?_))))
     refine T.loop (fun (x : Nat) ρ O => O = ([rowI (aD zX) d.next.length 4 1 (bools ((fillB (dif d (r + 1) s) d.next.length t).set t (dif d r s t || (List.range x).any fun x => dif d r (toN d s x) (toN d t x)))), rowI (aD z3) d.next.length 23 1 ((bvals ps) ++ ((.slice (aD zX) d.next.length d.next.length) :: (List.replicate (d.next.length - (s + 1)) nS))), rowI ob oc 23 1 (bvals qs), oI z1 25 [(vI d.vars), (vI d.start), (.slice nb d.next.length nc), (.slice fb d.final.length fc)]] ++ (bitms 4 ps ++ bitms 4 qs)) ∧ x ≤ 2 ^ d.vars.toNat ∧ Heads [(0, (.agg #[(vI d.vars), (vI d.start), (.slice nb d.next.length nc), (.slice fb d.final.length fc)])), (1, vI k), (2, (.pointer (aD z1))), (4, nS), (5, vI (d.next.length : Int)), (6, (.slice ob d.next.length oc)), (9, vI (r : Int)), (10, (.slice (aD z3) d.next.length d.next.length)), (11, vI (s : Int)), (12, vI (t : Int)), (13, vI (x : Int))] ρ) (fun x => 2 ^ d.vars.toNat - x) 0 ?_ ?_
     ·exact ⟨by simp, Nat.zero_le _, (.of rfl)⟩
     rintro x ρ O ⟨rfl, hx, hH⟩
     obtain ⟨ρ0, rfl⟩ := hH.elim
     clear hH
     refine T.s (T.s (T.rg (TO.qm rfl (TO.q (q_fa underlying25 rfl inf22 rfl rfl) (TO.q (q_lb 3 underlying22 rfl rfl rfl rfl) (TO.qm rfl (TO.q (q_ix (i := s) underlying22 inf37 rfl rfl (Sl.o h.outer) hlt65 (hvl ▸ hlt65)) (TO.q (q_ld underlying37 rfl rfl (Sl.o h.outer) g1) (TO.q (q_len underlying37 rfl) (TO.q (q_lss rfl rfl) (TO.nl (T.condP rfl (fun hc => ?_) (fun hc => ?_)))))))))))))
     ·have hlt98 : x < d.next[s].length := by omega
      have hlx : x < 2 ^ d.vars.toNat := by omega
      obtain ⟨hta, _, hxk1, hx1⟩ := hv.toN_lt hlt65 hlx
      obtain ⟨htb, _, hxk2, hx2⟩ := hv.toN_lt hlt75 hlx
      have hx1 : (ints d.next[s])[x]? = some (vI ((toN d s x : Nat) : Int)) := by rw [ints_get hxk1, hx1]
      have hx2 : (ints d.next[t])[x]? = some (vI ((toN d t x : Nat) : Int)) := by rw [ints_get hxk2, hx2]
      obtain ⟨qc, mc, gc, lc, ec⟩ := hM.get hta
      refine T.skip (T.s (T.block (T.s ?_)))
      refine T.draws _ [(0, 0), (1, 0), (2, 0), (3, 0), (4, 0), (5, 0), (6, 0), (7, 0), (8, 0), (9, 0), (10, 0), (11, 0), (12, 0), (13, 0), (14, 0), (15, 0), (16, 0), (17, 0), (18, 0), (19, 0), (20, 0)] mixed (drawF_ok (by kernel_rfl)) (Sub.of (List.Sublist.refl _)) (fun _ _ _ h => h) ?_
      refine DO.q rfl (q_move rfl) (DO.q rfl (q_fa underlying25 rfl inf22 rfl rfl) (DO.q rfl (q_lb 3 underlying22 rfl rfl rfl rfl) (DO.q rfl (q_move rfl) (DO.q rfl (q_ix (i := s) underlying22 inf37 rfl rfl (Sl.o h.outer) hlt65 (hvl ▸ hlt65)) (DO.q rfl (q_ld underlying37 rfl rfl (Sl.o h.outer) g1) (DO.q rfl (q_move rfl) (DO.q rfl (q_ix (i := x) underlying37 inf3 rfl rfl (Sl.o s1) (by rw [hl1]; exact hlx) (by rw [List.length_map, hl1]; exact hlx)) (DO.q rfl (q_ld underlying3 rfl rfl (Sl.o s1) hx1) (DO.q rfl (q_ix (i := (toN d s x)) underlying155 inf23 rfl rfl (rowO (mG 2 rfl)) hta (by rw [List.length_map, hM.len]; exact hta)) (DO.q rfl (q_ld underlying23 rfl rfl (rowO (mG 2 rfl)) gc) (DO.q rfl (q_fa underlying25 rfl inf22 rfl rfl) (DO.q rfl (q_lb 3 underlying22 rfl rfl rfl rfl) (DO.q rfl (q_move rfl) (DO.q rfl (q_ix (i := t) underlying22 inf37 rfl rfl (Sl.o h.outer) hlt75 (hvl ▸ hlt75)) (DO.q rfl (q_ld underlying37 rfl rfl (Sl.o h.outer) g2) (DO.q rfl (q_move rfl) (DO.q rfl (q_ix (i := x) underlying37 inf3 rfl rfl (Sl.o s2) (by rw [hl2]; exact hlx) (by rw [List.length_map, hl2]; exact hlx)) (DO.q rfl (q_ld underlying3 rfl rfl (Sl.o s2) hx2) (DO.q rfl (q_ix (i := (toN d t x)) underlying23 inf4 rfl rfl (fun w hI => hI.slOf (T := 4) (k := 1) (List.mem_append_right _ (List.mem_append_right _ (List.mem_map_of_mem (f := BRec.itm 4) mc)))) htb (lc ▸ htb)) (DO.q rfl (q_ld underlying4 rfl rfl (fun w hI => hI.slOf (T := 4) (k := 1) (List.mem_append_right _ (List.mem_append_right _ (List.mem_map_of_mem (f := BRec.itm 4) mc)))) (ec _ htb)) ?_))))))))))))))))))))
      refine DO.done ?_
      refine T.cond rfl (fun hc => ?_) (fun hc => ?_)
      ·refine T.rg ?_
       refine TO.qm rfl (TO.qm rfl (TO.q (q_ix (i := s) underlying155 inf23 rfl rfl (rowO (mG 1 rfl)) hlt65 (by simp; omega)) (TO.q (q_ld underlying23 rfl rfl (rowO (mG 1 rfl)) (hole_get (by simpa using hql))) (TO.qm rfl (TO.q (q_ix (i := t) underlying23 inf4 rfl rfl (rowO (mG 0 rfl)) hlt75 (by rw [List.length_map, List.length_set, fillB_length]; exact hlt75)) (TO.l rfl (l_st (j := t) (v := .bool true) (vs := [(.bool true)]) (cs := bools ((fillB (dif d (r + 1) s) d.next.length t).set t (dif d r s t || (List.range x).any fun x => dif d r (toN d s x) (toN d t x)))) 0 inf4 rfl rfl rfl rfl rfl (by simp) rfl (by rw [List.length_map, List.length_set, fillB_length]; exact hlt75) ?_)))))))
       refine TO.sub (O' := ([rowI (aD zX) d.next.length 4 1 (bools ((fillB (dif d (r + 1) s) d.next.length t).set t true)), rowI (aD z3) d.next.length 23 1 ((bvals ps) ++ ((.slice (aD zX) d.next.length d.next.length) :: (List.replicate (d.next.length - (s + 1)) nS))), rowI ob oc 23 1 (bvals qs), oI z1 25 [(vI d.vars), (vI d.start), (.slice nb d.next.length nc), (.slice fb d.final.length fc)]] ++ (bitms 4 ps ++ bitms 4 qs))) (by rw [show putL (bools ((fillB (dif d (r + 1) s) d.next.length t).set t (dif d r s t || (List.range x).any fun x => dif d r (toN d s x) (toN d t x)))) t [(.bool true)] = bools ((fillB (dif d (r + 1) s) d.next.length t).set t true) from by simp [putL]]; exact Sub.of (List.Sublist.refl _)) ?_
       refine TO.nl (T.rg (TO.qm rfl (TO.q (q_inc rfl rfl (by omega)) (TO.qa rfl (TO.nl ?_)))))
       have hxx : (dif d r s t || (List.range (x + 1)).any fun x => dif d r (toN d s x) (toN d t x)) = true := by rw [any_snoc, hc]; simp
       exact ⟨x + 1, by omega, by rw [hxx], by omega, (.of rfl)⟩
      refine T.skip (T.rg (TO.qm rfl (TO.q (q_inc rfl rfl (by omega)) (TO.qa rfl (TO.nl ?_)))))
      have hxx : (dif d r s t || (List.range (x + 1)).any fun x => dif d r (toN d s x) (toN d t x)) = (dif d r s t || (List.range x).any fun x => dif d r (toN d s x) (toN d t x)) := by rw [any_snoc, hc]; simp
      exact ⟨x + 1, by omega, by rw [hxx], by omega, (.of rfl)⟩
     have hge98 : ¬ x < d.next[s].length := by omega
     refine T.exit ?_
     refine T.rg (TO.qm rfl (TO.q (q_inc rfl rfl (by omega)) (TO.qa rfl (TO.nl ?_))))
     have hxe : x = letN d := by unfold letN; omega
     have hfu : (dif d r s t || (List.range x).any fun x => dif d r (toN d s x) (toN d t x)) = dif d (r + 1) s t := by rw [hxe]; rfl
     exact ⟨t + 1, by omega, by rw [hfu, fillB_set hlt75 rfl], by omega, (.of rfl)⟩
    have hge75 : ¬ t < d.next.length := by omega
    refine T.exit ?_
    refine T.rg (TO.qm rfl (TO.q (q_inc rfl rfl (by omega)) (TO.qa rfl ?_)))
    have hR : rowI (aD zX) d.next.length 4 1 (bools (fillB (dif d (r + 1) s) d.next.length t)) = BRec.itm 4 ⟨(aD zX), d.next.length, difRow d (r + 1) s⟩ := by
     rw [show t = d.next.length by omega, fillB_full]; rfl
    refine TO.sub (O' := [rowI (aD z3) d.next.length 23 1 ((bvals ps) ++ ((.slice (aD zX) d.next.length d.next.length) :: (List.replicate (d.next.length - (s + 1)) nS))), rowI ob oc 23 1 (bvals qs), oI z1 25 [(vI d.vars), (vI d.start), (.slice nb d.next.length nc), (.slice fb d.final.length fc)]] ++ (bitms 4 (ps ++ [⟨(aD zX), d.next.length, difRow d (r + 1) s⟩]) ++ bitms 4 qs)) (by rw [hR]; exact Sub.cnt [] (by intro a; simp only [itms, bitms, oI, List.set_cons_zero, List.set_cons_succ, putL, List.cons_append, List.nil_append, List.append_nil, List.append_assoc, List.map_append, List.map_cons, List.map_nil, cnt_append, cnt_cons, cnt_nil, vI, nS, aD] <;> omega)) ?_
    refine TO.nl ?_
    exact ⟨s + 1, by omega, ps ++ [⟨(aD zX), d.next.length, difRow d (r + 1) s⟩], by simp [BRec.val, difRow_length], by omega, hM2.snoc, (.of rfl)⟩
   have hge65 : ¬ s < d.next.length := by omega
   refine T.exit ?_
   refine T.rg (TO.qm rfl (TO.qa rfl (TO.nl (T.rg (TO.qm rfl (TO.q (q_inc rfl rfl (by omega)) (TO.qa rfl ?_)))))))
   have hMse : s = d.next.length := by omega
   have hR0 : (bvals ps) ++ (List.replicate (d.next.length - s) nS) = bvals ps := by rw [show d.next.length - s = 0 by omega]; simp
   rw [hR0]
   refine TO.sub (O' := [rowI (aD z3) d.next.length 23 1 (bvals ps), oI z1 25 [(vI d.vars), (vI d.start), (.slice nb d.next.length nc), (.slice fb d.final.length fc)]] ++ (bitms 4 ps)) (Sub.cnt ([rowI ob oc 23 1 (bvals qs)] ++ bitms 4 qs) (by intro a; simp only [itms, bitms, oI, List.set_cons_zero, List.set_cons_succ, putL, List.cons_append, List.nil_append, List.append_nil, List.append_assoc, List.map_append, List.map_cons, List.map_nil, cnt_append, cnt_cons, cnt_nil, vI, nS, aD] <;> omega)) ?_
   refine TO.nl ?_
   exact ⟨r + 1, by omega, (aD z3), d.next.length, ps, rfl, by omega, by omega, hMse ▸ hM2, (.of rfl)⟩
  have hge58 : ¬ r < d.next.length := by omega
  refine T.exit ?_
  refine T.s (T.rg (TO.qm rfl (TO.qa rfl (TO.nl (T.ret (Res.drop ?_))))))
  refine Res.one (.slice ob d.next.length oc) Tryz.results124 rfl ?_
  have hre : r = min k.toNat d.next.length := by omega
  exact ⟨rowI ob oc 23 1 (bvals qs) :: bitms 4 qs, Sub.cnt [oI z1 25 [(vI d.vars), (vI d.start), (.slice nb d.next.length nc), (.slice fb d.final.length fc)]] (by intro a; simp only [itms, bitms, oI, List.set_cons_zero, List.set_cons_succ, putL, List.cons_append, List.nil_append, List.append_nil, List.append_assoc, List.map_append, List.map_cons, List.map_nil, cnt_append, cnt_cons, cnt_nil, vI, nS, aD] <;> omega), ob, oc, qs, rfl, rfl, hre ▸ hM⟩
 refine TO.q (QT.toB (q_lss rfl rfl) (decide_eq_false hk1)) (TO.qm rfl (TO.pd rfl rfl (TO.pd rfl rfl (TO.pd rfl rfl (TO.q (q_pick0 rfl rfl) (TO.nl (T.cond0 rfl ?_)))))))
 refine T.exit ?_
 refine T.s (T.rg (TO.qm rfl (TO.qa rfl (TO.nl (T.ret (Res.drop ?_))))))
 refine Res.one (.slice ob d.next.length oc) Tryz.results124 rfl ?_
 have hre : r = min k.toNat d.next.length := by omega
 exact ⟨rowI ob oc 23 1 (bvals qs) :: bitms 4 qs, Sub.cnt [oI z1 25 [(vI d.vars), (vI d.start), (.slice nb d.next.length nc), (.slice fb d.final.length fc)]] (by intro a; simp only [itms, bitms, oI, List.set_cons_zero, List.set_cons_succ, putL, List.cons_append, List.nil_append, List.append_nil, List.append_assoc, List.map_append, List.map_cons, List.map_nil, cnt_append, cnt_cons, cnt_nil, vI, nS, aD] <;> omega), ob, oc, qs, rfl, rfl, hre ▸ hM⟩
end Go.Proofs.YtohkmggbfcnapaaGreatDoor


namespace Go.Proofs.YtohkmggbfcnapaaGreatDoor
open Go.Lx Go.RowKit _root_.Go.Proofs.Tryz
theorem rRoundsBad (w : World) [Tab Tryz.prog w] (d : DFA) (nb fb : Option Addr) (nc fc : Nat) (vs : List Value) (h : DfaAt w d nb vs fb) (hb : d.next.length < 9223372036854775807) (hbr : ∀ r ∈ d.next, r.length < 9223372036854775807) (hbf : d.final.length < 9223372036854775807) (he : checkD d ≠ 0) (k : Int) :
  PureT Tryz.prog 105 [.agg (dfaCells d nb nc fb fc).toArray, vI k] w fun v N => v = .tuple #[nS, vI (checkD d : Int)] ∧ N = [] := by
 refine CallT.enter func105 rfl ntmps105 rfl ?_
 refine T.s (T.rg (TO.l rfl (l_box (v := (.agg #[(vI d.vars), (vI d.start), (.slice nb d.next.length nc), (.slice fb d.final.length fc)])) (cs := [(vI d.vars), (vI d.start), (.slice nb d.next.length nc), (.slice fb d.final.length fc)]) rfl rfl (fun b1 => ?_))))
 refine TO.qa rfl (TO.qa rfl (TO.nl (T.s (T.rg (TO.q (q_la 0 underlying25 rfl inf25 rfl rfl rfl) ?_)))))
 have hk13 := fun (w1 : World) (hI : Inv w [oI b1 25 [(vI d.vars), (vI d.start), (.slice nb d.next.length nc), (.slice fb d.final.length fc)]] w1) => (haveI := Inv.tab (P := Tryz.prog) hI; refCheck w1 d nb fb nc fc vs (hI.dfa h) hb hbr hbf)
 refine TO.l rfl (l_call ent21 (CallT.op hk13) rfl ?_)
 clear hk13
 rintro v O' ⟨N, rfl, rfl, rfl⟩
 refine TO.qa rfl (TO.nl (T.s (T.s (T.rg (TO.qm rfl (TO.q (QT.toB (q_neq rfl rfl) (decide_eq_true (by omega))) (TO.nl ?_)))))))
 refine T.cond1 rfl ?_
 refine T.s (T.rg (TO.qm rfl (TO.qa rfl (TO.qa rfl (TO.nl (T.ret (Res.drop ?_)))))))
 refine Res.two nS (vI (checkD d : Int)) Tryz.results105 rfl rfl ?_
 exact ⟨[], Sub.of (List.nil_sublist _), rfl, rfl⟩
theorem rRoundsOk (w : World) [Tab Tryz.prog w] (d : DFA) (nb fb : Option Addr) (nc fc : Nat) (vs : List Value) (h : DfaAt w d nb vs fb) (hv : Valid d) (hn : d.next.length < 10000) (k : Int) :
  PureT Tryz.prog 105 [.agg (dfaCells d nb nc fb fc).toArray, vI k] w fun v N => ∃ b c, v = .tuple #[.slice b d.next.length c, vI 0] ∧ N = [rowI b c 3 1 (nats (itF d k.toNat))] := by
 refine CallT.enter func105 rfl ntmps105 rfl ?_
 have he := checkD_zero.2 hv
 have hb : d.next.length < 9223372036854775807 := by have := hv.n4; omega
 have hbr : ∀ r ∈ d.next, r.length < 9223372036854775807 := hv.bound
 have hbf : d.final.length < 9223372036854775807 := by have := hv.fin; omega
 refine T.s (T.rg (TO.l rfl (l_box (v := (.agg #[(vI d.vars), (vI d.start), (.slice nb d.next.length nc), (.slice fb d.final.length fc)])) (cs := [(vI d.vars), (vI d.start), (.slice nb d.next.length nc), (.slice fb d.final.length fc)]) rfl rfl (fun z1 => ?_))))
 refine TO.qa rfl (TO.qa rfl (TO.nl (T.s (T.rg (TO.q (q_la 0 underlying25 rfl inf25 rfl rfl rfl) ?_)))))
 have hk13 := fun (w1 : World) (hI : Inv w [oI z1 25 [(vI d.vars), (vI d.start), (.slice nb d.next.length nc), (.slice fb d.final.length fc)]] w1) => (haveI := Inv.tab (P := Tryz.prog) hI; refCheck w1 d nb fb nc fc vs (hI.dfa h) hb hbr hbf)
 refine TO.l rfl (l_call ent21 (CallT.op hk13) rfl ?_)
 clear hk13
 rintro v O' ⟨N, rfl, rfl, rfl⟩
 rw [he]
 refine TO.qa rfl (TO.nl (T.s (T.s (T.rg (TO.qm rfl (TO.q (q_neq rfl rfl) (TO.nl (T.cond0 rfl (T.skip (T.s (T.rg (TO.q (q_la 0 underlying25 rfl inf25 rfl rfl rfl) (TO.qm rfl ?_)))))))))))))
 have hk19 := fun (w1 : World) (hI : Inv w [oI z1 25 [(vI d.vars), (vI d.start), (.slice nb d.next.length nc), (.slice fb d.final.length fc)]] w1) => (haveI := Inv.tab (P := Tryz.prog) hI; differC w1 d nb fb nc fc vs (hI.dfa h) hv hn k)
 refine TO.l rfl (l_call ent124 (CallT.op hk19) rfl ?_)
 clear hk19
 rintro v O' ⟨N, rfl, mb, mc, qs, rfl, rfl, hM⟩
 refine TO.sub (O' := ([rowI mb mc 23 1 (bvals qs), oI z1 25 [(vI d.vars), (vI d.start), (.slice nb d.next.length nc), (.slice fb d.final.length fc)]] ++ (bitms 4 qs))) (Sub.ca []) ?_
 refine TO.qa rfl (TO.nl (T.s (T.rg (TO.qa rfl (TO.nl (T.s (T.rg (TO.qa rfl (TO.nl (T.s (T.s (T.rg (TO.qa rfl (TO.nl (T.block (T.nilRow 3 1 ?_))))))))))))))))
 refine T.loop (fun (s : Nat) ρ O => ∃ (lb : Option Addr) (lc : Nat), O = ([rowI lb lc 3 1 (nats (labD d (min k.toNat d.next.length) s).1), rowI mb mc 23 1 (bvals qs), oI z1 25 [(vI d.vars), (vI d.start), (.slice nb d.next.length nc), (.slice fb d.final.length fc)]] ++ (bitms 4 qs)) ∧ s ≤ d.next.length ∧ Heads [(0, (.agg #[(vI d.vars), (vI d.start), (.slice nb d.next.length nc), (.slice fb d.final.length fc)])), (1, vI k), (2, (.pointer (aD z1))), (4, nS), (5, vI 0), (6, vI ((0 : Nat) : Int)), (7, (.slice mb d.next.length mc)), (8, (.slice lb s lc)), (9, vI (((labD d (min k.toNat d.next.length) s).2 : Nat) : Int)), (10, vI (s : Int))] ρ) (fun s => d.next.length - s) 0 ?_ ?_
 ·exact ⟨none, 0, rfl, Nat.zero_le _, (.of rfl)⟩
 rintro s ρ O ⟨lb, lc, rfl, hs, hH⟩
 obtain ⟨ρ0, rfl⟩ := hH.elim
 clear hH
 obtain ⟨hll, hlc⟩ := labD_len d (min k.toNat d.next.length) s
 refine T.s (T.s (T.rg (TO.qm rfl (TO.qm rfl (TO.q (q_len underlying155 rfl) (TO.q (q_lss rfl rfl) (TO.nl (T.condP rfl (fun hc => ?_) (fun hc => ?_)))))))))
 ·have hlt23 : s < d.next.length := by omega
  obtain ⟨qa, ma, ga, la, ea⟩ := hM.get hlt23
  refine T.skip (T.s (T.block (T.s (T.rg (TO.qa rfl (TO.nl (T.s (T.block ?_))))))))
  refine T.loop (fun (t : Nat) ρ O => O = ([rowI lb lc 3 1 (nats (labD d (min k.toNat d.next.length) s).1), rowI mb mc 23 1 (bvals qs), oI z1 25 [(vI d.vars), (vI d.start), (.slice nb d.next.length nc), (.slice fb d.final.length fc)]] ++ (bitms 4 qs)) ∧ t ≤ s ∧ (∀ t', t' < t → dif d (min k.toNat d.next.length) s t' = true) ∧ Heads [(0, (.agg #[(vI d.vars), (vI d.start), (.slice nb d.next.length nc), (.slice fb d.final.length fc)])), (1, vI k), (2, (.pointer (aD z1))), (4, nS), (5, vI 0), (6, vI ((0 : Nat) : Int)), (7, (.slice mb d.next.length mc)), (8, (.slice lb s lc)), (9, vI (((labD d (min k.toNat d.next.length) s).2 : Nat) : Int)), (10, vI (s : Int)), (11, vI (t : Int))] ρ) (fun t => s - t) 0 ?_ ?_
  ·exact ⟨rfl, Nat.zero_le _, fun t' h => absurd h (by omega), (.of rfl)⟩
  rintro t ρ O ⟨rfl, ht, hdt, hH⟩
  obtain ⟨ρ0, rfl⟩ := hH.elim
  clear hH
  refine T.s (T.s (T.rg (TO.qm rfl (TO.qm rfl (TO.q (q_ix (i := s) underlying155 inf23 rfl rfl (rowO (mG 1 rfl)) hlt23 (by rw [List.length_map, hM.len]; exact hlt23)) (TO.q (q_ld underlying23 rfl rfl (rowO (mG 1 rfl)) ga) (TO.qm rfl (TO.q (q_ix (i := t) underlying23 inf4 rfl rfl (fun w hI => hI.slOf (T := 4) (k := 1) (List.mem_append_right _ (List.mem_map_of_mem (f := BRec.itm 4) ma))) (by omega) (by omega)) (TO.q (q_ld underlying4 rfl rfl (fun w hI => hI.slOf (T := 4) (k := 1) (List.mem_append_right _ (List.mem_map_of_mem (f := BRec.itm 4) ma))) (ea t (by omega))) (TO.nl (T.cond rfl (fun hc => ?_) (fun hc => ?_))))))))))))
  ·have hts : t < s := by
    by_cases e : t = s
    ·subst e; rw [dif_self] at hc; cases hc
    ·omega
   refine T.skip (T.block (T.rg (TO.qm rfl (TO.q (q_inc rfl rfl (by omega)) (TO.qa rfl (TO.nl ?_))))))
   exact ⟨t + 1, by omega, rfl, by omega, fun t' h9 => by
    by_cases e : t' = t
    ·subst e; exact hc
    ·exact hdt t' (by omega), (.of rfl)⟩
  have hc0 := hc
  refine T.exit ?_
  refine T.s (T.rg (TO.qm rfl (TO.qm rfl (TO.q (q_lss rfl rfl) (TO.nl (T.condP rfl (fun hc => ?_) (fun hc => ?_)))))))
  ·have hlt37 : t < s := by omega
   have hst := labD_old hlt37 hdt hc0
   refine T.rg (TO.qm rfl (TO.qm rfl (TO.qm rfl (TO.q (q_ix (i := t) underlying37 inf3 rfl rfl (rowO (mG 0 rfl)) hlt37 (by rw [List.length_map, hll]; exact hlt37)) (TO.q (q_ld underlying3 rfl rfl (rowO (mG 0 rfl)) (show (nats (labD d (min k.toNat d.next.length) s).1)[t]? = some (vI (((labD d (min k.toNat d.next.length) s).1.getD t 0 : Nat) : Int)) by rw [nats_get (by rw [hll]; exact hlt37)]; simp [hll, hlt37])) (TO.l rfl (l_build1 (v := vI (((labD d (min k.toNat d.next.length) s).1.getD t 0 : Nat) : Int)) underlying37 inf3 rfl rfl rfl (fun z2 => ?_))))))))
   refine TO.l rfl (l_append 1 underlying37 underlying37 inf3 rfl rfl rfl rfl (by rw [List.length_map, hll, Nat.mul_one]) (by decide) (Src.row (j := 0) rfl (by simp)) (by simp [oneB]) (by omega) (by decide) (by decide) (fun z3 zc4 => ?_))
   refine TO.qa rfl (TO.nl (T.rg (TO.qm rfl (TO.q (q_inc rfl rfl (by omega)) (TO.qa rfl ?_)))))
   refine TO.sub (O' := ([rowI z3 zc4 3 1 ((nats (labD d (min k.toNat d.next.length) s).1) ++ [vI (((labD d (min k.toNat d.next.length) s).1.getD t 0 : Nat) : Int)]), rowI mb mc 23 1 (bvals qs), oI z1 25 [(vI d.vars), (vI d.start), (.slice nb d.next.length nc), (.slice fb d.final.length fc)]] ++ (bitms 4 qs))) (Sub.pickR [1, 1, 1] [rowI (aD z2) 1 3 1 [vI (((labD d (min k.toNat d.next.length) s).1.getD t 0 : Nat) : Int)], rowI z3 zc4 3 1 ((nats (labD d (min k.toNat d.next.length) s).1) ++ [vI (((labD d (min k.toNat d.next.length) s).1.getD t 0 : Nat) : Int)]), rowI mb mc 23 1 (bvals qs), oI z1 25 [(vI d.vars), (vI d.start), (.slice nb d.next.length nc), (.slice fb d.final.length fc)]] (bitms 4 qs) rfl rfl) ?_
   refine TO.nl ?_
   refine ⟨s + 1, by omega, z3, zc4, ?_, by omega, ?_⟩
   ·rw [hst, show nats ((labD d (min k.toNat d.next.length) s).1 ++ [(labD d (min k.toNat d.next.length) s).1.getD t 0]) = nats (labD d (min k.toNat d.next.length) s).1 ++ [vI (((labD d (min k.toNat d.next.length) s).1.getD t 0 : Nat) : Int)] from List.map_append]
   ·rw [hst]; exact (.of rfl)
  have hge37 : ¬ t < s := by omega
  have hte : t = s := by omega
  have hst := labD_new (d := d) (k := (min k.toNat d.next.length)) (s := s) (fun t' h9 => hdt t' (by omega))
  refine T.s (T.rg (TO.qm rfl (TO.qm rfl (TO.l rfl (l_build1 (v := vI (((labD d (min k.toNat d.next.length) s).2 : Nat) : Int)) underlying37 inf3 rfl rfl rfl (fun z5 => ?_))))))
  refine TO.l rfl (l_append 1 underlying37 underlying37 inf3 rfl rfl rfl rfl (by rw [List.length_map, hll, Nat.mul_one]) (by decide) (Src.row (j := 0) rfl (by simp)) (by simp [oneB]) (by omega) (by decide) (by decide) (fun z6 zc7 => ?_))
  refine TO.qa rfl (TO.nl (T.rg (TO.qm rfl (TO.q (q_inc rfl rfl (by omega)) (TO.qa rfl (TO.nl (T.rg (TO.qm rfl (TO.q (q_inc rfl rfl (by omega)) (TO.qa rfl ?_))))))))))
  refine TO.sub (O' := ([rowI z6 zc7 3 1 ((nats (labD d (min k.toNat d.next.length) s).1) ++ [vI (((labD d (min k.toNat d.next.length) s).2 : Nat) : Int)]), rowI mb mc 23 1 (bvals qs), oI z1 25 [(vI d.vars), (vI d.start), (.slice nb d.next.length nc), (.slice fb d.final.length fc)]] ++ (bitms 4 qs))) (Sub.pickR [1, 1, 1] [rowI (aD z5) 1 3 1 [vI (((labD d (min k.toNat d.next.length) s).2 : Nat) : Int)], rowI z6 zc7 3 1 ((nats (labD d (min k.toNat d.next.length) s).1) ++ [vI (((labD d (min k.toNat d.next.length) s).2 : Nat) : Int)]), rowI mb mc 23 1 (bvals qs), oI z1 25 [(vI d.vars), (vI d.start), (.slice nb d.next.length nc), (.slice fb d.final.length fc)]] (bitms 4 qs) rfl rfl) ?_
  refine TO.nl ?_
  refine ⟨s + 1, by omega, z6, zc7, ?_, by omega, ?_⟩
  ·rw [hst, show nats ((labD d (min k.toNat d.next.length) s).1 ++ [(labD d (min k.toNat d.next.length) s).2]) = nats (labD d (min k.toNat d.next.length) s).1 ++ [vI (((labD d (min k.toNat d.next.length) s).2 : Nat) : Int)] from List.map_append]
  ·rw [hst]; exact (.of rfl)
 have hge23 : ¬ s < d.next.length := by omega
 refine T.exit ?_
 refine T.s (T.rg (TO.qm rfl (TO.qa rfl (TO.qa rfl (TO.nl (T.ret (Res.drop ?_)))))))
 refine Res.two (.slice lb s lc) (vI 0) Tryz.results105 rfl rfl ?_
 have hse : s = d.next.length := by omega
 have hx : (labD d (min k.toNat d.next.length) s).1 = itF d k.toNat := by rw [hse]; exact labD_itF hv k.toNat
 exact ⟨[rowI lb lc 3 1 (nats (labD d (min k.toNat d.next.length) s).1)], Sub.cnt ([rowI mb mc 23 1 (bvals qs), oI z1 25 [(vI d.vars), (vI d.start), (.slice nb d.next.length nc), (.slice fb d.final.length fc)]] ++ bitms 4 qs) (by intro a; simp only [itms, bitms, oI, List.set_cons_zero, List.set_cons_succ, putL, List.cons_append, List.nil_append, List.append_nil, List.append_assoc, List.map_append, List.map_cons, List.map_nil, cnt_append, cnt_cons, cnt_nil, vI, nS, aD] <;> omega), lb, lc, by rw [hse], by rw [hx]⟩
theorem rClassesBad (w : World) [Tab Tryz.prog w] (d : DFA) (nb fb : Option Addr) (nc fc : Nat) (vs : List Value) (h : DfaAt w d nb vs fb) (hb : d.next.length < 9223372036854775807) (hbr : ∀ r ∈ d.next, r.length < 9223372036854775807) (hbf : d.final.length < 9223372036854775807) (he : checkD d ≠ 0) :
  PureT Tryz.prog 81 [.agg (dfaCells d nb nc fb fc).toArray] w fun v N => v = .tuple #[nS, vI (checkD d : Int)] ∧ N = [] := by
 refine CallT.enter func81 rfl ntmps81 rfl ?_
 refine T.s (T.rg (TO.l rfl (l_box (v := (.agg #[(vI d.vars), (vI d.start), (.slice nb d.next.length nc), (.slice fb d.final.length fc)])) (cs := [(vI d.vars), (vI d.start), (.slice nb d.next.length nc), (.slice fb d.final.length fc)]) rfl rfl (fun b1 => ?_))))
 refine TO.qa rfl (TO.qa rfl (TO.nl (T.s (T.rg (TO.q (q_la 0 underlying25 rfl inf25 rfl rfl rfl) (TO.q (q_fa underlying25 rfl inf22 rfl rfl) (TO.q (q_lb 0 underlying22 rfl rfl rfl rfl) (TO.q (q_len underlying22 rfl) ?_))))))))
 have hk8 := fun (w1 : World) (hI : Inv w [oI b1 25 [(vI d.vars), (vI d.start), (.slice nb d.next.length nc), (.slice fb d.final.length fc)]] w1) => (haveI := Inv.tab (P := Tryz.prog) hI; rRoundsBad w1 d nb fb nc fc vs (hI.dfa h) hb hbr hbf he d.next.length)
 refine TO.l rfl (l_call ent105 (CallT.op hk8) rfl ?_)
 clear hk8
 rintro v O' ⟨N, rfl, rfl, rfl⟩
 refine TO.q (q_extract (vs := _) rfl rfl) (TO.q (q_extract (vs := _) rfl rfl) (TO.qa rfl (TO.qa rfl (TO.nl (T.ret (Res.drop ?_))))))
 refine Res.two nS (vI (checkD d : Int)) Tryz.results81 rfl rfl ?_
 exact ⟨[], Sub.of (List.nil_sublist _), rfl, rfl⟩
theorem rClassesOk (w : World) [Tab Tryz.prog w] (d : DFA) (nb fb : Option Addr) (nc fc : Nat) (vs : List Value) (h : DfaAt w d nb vs fb) (hv : Valid d) (hn : d.next.length < 10000) :
  PureT Tryz.prog 81 [.agg (dfaCells d nb nc fb fc).toArray] w fun v N => ∃ b c, v = .tuple #[.slice b d.next.length c, vI 0] ∧ N = [rowI b c 3 1 (nats (itF d d.next.length))] := by
 refine CallT.enter func81 rfl ntmps81 rfl ?_
 refine T.s (T.rg (TO.l rfl (l_box (v := (.agg #[(vI d.vars), (vI d.start), (.slice nb d.next.length nc), (.slice fb d.final.length fc)])) (cs := [(vI d.vars), (vI d.start), (.slice nb d.next.length nc), (.slice fb d.final.length fc)]) rfl rfl (fun b1 => ?_))))
 refine TO.qa rfl (TO.qa rfl (TO.nl (T.s (T.rg (TO.q (q_la 0 underlying25 rfl inf25 rfl rfl rfl) (TO.q (q_fa underlying25 rfl inf22 rfl rfl) (TO.q (q_lb 0 underlying22 rfl rfl rfl rfl) (TO.q (q_len underlying22 rfl) ?_))))))))
 have hk8 := fun (w1 : World) (hI : Inv w [oI b1 25 [(vI d.vars), (vI d.start), (.slice nb d.next.length nc), (.slice fb d.final.length fc)]] w1) => (haveI := Inv.tab (P := Tryz.prog) hI; rRoundsOk w1 d nb fb nc fc vs (hI.dfa h) hv hn d.next.length)
 refine TO.l rfl (l_call ent105 (CallT.op hk8) rfl ?_)
 clear hk8
 rintro v O' ⟨N, rfl, b, c, rfl, rfl⟩
 refine TO.q (q_extract (vs := _) rfl rfl) (TO.q (q_extract (vs := _) rfl rfl) (TO.qa rfl (TO.qa rfl (TO.nl (T.ret (Res.drop ?_))))))
 refine Res.two (.slice b d.next.length c) (vI 0) Tryz.results81 rfl rfl ?_
 exact ⟨[rowI b c 3 1 (nats (itF d d.next.length))], (Sub.pick [0] rfl), _, _, rfl, rfl⟩
end Go.Proofs.YtohkmggbfcnapaaGreatDoor


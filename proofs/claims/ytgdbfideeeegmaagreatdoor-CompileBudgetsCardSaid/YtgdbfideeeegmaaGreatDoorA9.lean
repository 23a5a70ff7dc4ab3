/- Contracts of functions of the program, and what they answer. Conditions: those each theorem names. -/
import Derived.Test.YtgdbfideeeegmaaGreatDoorA2
import Derived.Test.YtgdbfideeeegmaaGreatDoorA5
import Derived.Test.YtgdbfideeeegmaaGreatDoorA6
import Derived.Test.YtgdbfideeeegmaaGreatDoorA7
import Derived.Test.YtgdbfideeeegmaaGreatDoorA8
import Derived.Laws.StructEq
import Derived.Shelf.Small.Bits
set_option linter.unusedSectionVars false
set_option linter.unusedSimpArgs false
set_option linter.unusedVariables false
set_option linter.unnecessarySimpa false
set_option maxHeartbeats 8000000
set_option maxRecDepth 20000
namespace Go.Proofs.YtgdbfideeeegmaaGreatDoor
open Go.Lx Go.RowKit _root_.Go.Proofs.Tryz
theorem AQ {b:Bool} {i:Int} (h:(b=false∧i= -1)∨ ∃k:Nat,i=(k:Int)∧b=true):decide (i≥0)=b:=by
 rcases h with⟨rfl,rfl⟩|⟨k,rfl,rfl⟩
 ·decide
 ·exact decide_eq_true (by omega)
theorem AR (base:World) [cG Tryz.prog base] (b:Option Addr) (c:Nat) (xs:List CR) (hS:Sl base b (cr xs)) (hb:xs.length<4611686018427387904) (fv:Value) (p:CR→Bool) (hy: ∀x∈xs,dn Tryz.prog base fv [(.agg #[vI x.k,vN x.s,(.slice x.r.b x.r.o.length x.r.c)])] [] (fun v O'=>v=.bool (p x)∧O'=[])):
  bm Tryz.prog base 167 [.slice b xs.length c,fv] [] (fun v O'=> ∃i:Int,v=vI i∧((xs.any p=false∧i= -1)∨ ∃k:Nat,i=(k:Int)∧xs.any p=true)∧O'=[]):=by
 refine aw func167 F ntmps167 F ?_
 refine ai (aj F (ae (aB (ai (ah F (ad (bS lO F) (ah F (ae (aG ?_)))))))))
 refine dm (fun(k:Nat) ρ O=>O=[]∧k≤xs.length∧(xs.take k).any p=false∧cw [(0,(.slice b xs.length c)),(1,fv),(7,vI (xs.length:Int)),(8,vI (k:Int))] ρ) (fun k=>xs.length-k) 0 ?_ ?_
 ·exact⟨F,Nat.zero_le _,F,⟨F,F,F,F,trivial⟩⟩
 rintro k ρ O ⟨rfl,hk,kJ,hH⟩
 obtain⟨fE,rfl⟩:=hH.elim
 clear hH
 refine ai (ad (bT F F) (ae (aB (aC F (fun hc=>?_) (fun hc=>?_)))))
 ·have iS:k<xs.length:=by omega
  refine av (aB (aG (ai (ah F (aj F (ae (ai (ah F (ah F (ah F (ad (cY (i:=k) lO gO F F (ay hS) iS (by rw[nl];omega)) (ad (dy (vs:=[vI xs[k].k,vN (xs[k].s),(.slice xs[k].r.b xs[k].r.o.length xs[k].r.c)]) jK F gO F F (Nat.succ_pos _) (ay hS) (qq iS)) ?_))))))))))))
  have oF:=hy xs[k] (List.getElem_mem iS)
  refine ak F (dx oF F F ?_)
  clear oF
  rintro vr O' ⟨rfl,rfl⟩
  refine ae (T.cond F (fun hc=>?_) (fun hc=>?_))
  ·refine aB ?_
   refine aJ (ah F (aj F (ae (aA (ap ?_)))))
   refine aE (vI (k:Int)) Tryz.results167 F ?_
   exact⟨[],Sub.z,k,F,.inr ⟨k,F,DU iS hc⟩,F⟩
  refine av (aJ (ad (cx (a:=k) (b:=1) F F (by omega)) (ah F (ae ?_))))
  exact⟨k+1,by omega,F,by omega,sr iS kJ hc,⟨F,F,F,F,trivial⟩⟩
 have HW: ¬k<xs.length:=by omega
 refine bJ ?_
 refine ai (aj F (ae (aA (ap ?_))))
 refine aE (vI (-1)) Tryz.results167 F ?_
 exact⟨[],Sub.z, -1,F,.inl ⟨by rw[List.take_of_length_le (by omega)]at kJ;exact kJ,F⟩,F⟩
theorem oN (base:World) [cG Tryz.prog base] (b:Option Addr) (c:Nat) (xs:List CR) (hS:Sl base b (cr xs)) (hb:xs.length<4611686018427387904) (fv:Value) (p:CR→Bool) (hy: ∀x∈xs,dn Tryz.prog base fv [(.agg #[vI x.k,vN x.s,(.slice x.r.b x.r.o.length x.r.c)])] [] (fun v O'=>v=.bool (p x)∧O'=[])):
  bm Tryz.prog base 116 [.slice b xs.length c,fv] [] (fun v O'=>v=.bool (xs.any p)∧O'=[]):=by
 refine aw func116 F ntmps116 F ?_
 refine ai (aj F (ae (ai (ah F (ah F ?_)))))
 have AB:=AR base b c xs hS hb fv p hy
 refine ak F (aP PS AB F ?_)
 clear AB
 rintro v O' ⟨i,rfl,hi,rfl⟩
 refine ad (jF F F) (aj F (ae (aA (ap ?_))))
 refine aE (.bool (decide (i≥0))) Tryz.results116 F ?_
 exact⟨[],Sub.z,congrArg Value.bool (AQ hi),F⟩
theorem yG (base:World) [cG Tryz.prog base] (b:Option Addr) (c:Nat) (xs:List dF) (hS:Sl base b (bg xs)) (hb:xs.length<4611686018427387904) (fv:Value) (p:dF→Bool) (hy: ∀x∈xs,dn Tryz.prog base fv [x.ag] [] (fun v O'=>v=.bool (p x)∧O'=[])):
  bm Tryz.prog base 100 [.slice b xs.length c,fv] [] (fun v O'=> ∃i:Int,v=vI i∧((xs.any p=false∧i= -1)∨ ∃k:Nat,i=(k:Int)∧xs.any p=true)∧O'=[]):=by
 refine aw func100 F ntmps100 F ?_
 refine ai (aj F (ae (aB (ai (ah F (ad (bS cN F) (ah F (ae (aG ?_)))))))))
 refine dm (fun(k:Nat) ρ O=>O=[]∧k≤xs.length∧(xs.take k).any p=false∧cw [(0,(.slice b xs.length c)),(1,fv),(7,vI (xs.length:Int)),(8,vI (k:Int))] ρ) (fun k=>xs.length-k) 0 ?_ ?_
 ·exact⟨F,Nat.zero_le _,F,⟨F,F,F,F,trivial⟩⟩
 rintro k ρ O ⟨rfl,hk,kJ,hH⟩
 obtain⟨fE,rfl⟩:=hH.elim
 clear hH
 refine ai (ad (bT F F) (ae (aB (aC F (fun hc=>?_) (fun hc=>?_)))))
 ·have iS:k<xs.length:=by omega
  refine av (aB (aG (ai (ah F (aj F (ae (ai (ah F (ah F (ah F (ad (cY (i:=k) cN bN F F (ay hS) iS (by rw[bE];omega)) (ad (dy (vs:=xs[k].cl) bs F bN F F (Nat.succ_pos _) (ay hS) (jP iS)) ?_))))))))))))
  have oF:=hy xs[k] (List.getElem_mem iS)
  refine ak F (dx oF F F ?_)
  clear oF
  rintro vr O' ⟨rfl,rfl⟩
  refine ae (T.cond F (fun hc=>?_) (fun hc=>?_))
  ·refine aB ?_
   refine aJ (ah F (aj F (ae (aA (ap ?_)))))
   refine aE (vI (k:Int)) Tryz.results100 F ?_
   exact⟨[],Sub.z,k,F,.inr ⟨k,F,DU iS hc⟩,F⟩
  refine av (aJ (ad (cx (a:=k) (b:=1) F F (by omega)) (ah F (ae ?_))))
  exact⟨k+1,by omega,F,by omega,sr iS kJ hc,⟨F,F,F,F,trivial⟩⟩
 have HW: ¬k<xs.length:=by omega
 refine bJ ?_
 refine ai (aj F (ae (aA (ap ?_))))
 refine aE (vI (-1)) Tryz.results100 F ?_
 exact⟨[],Sub.z, -1,F,.inl ⟨by rw[List.take_of_length_le (by omega)]at kJ;exact kJ,F⟩,F⟩
theorem nE (base:World) [cG Tryz.prog base] (b:Option Addr) (c:Nat) (xs:List dF) (hS:Sl base b (bg xs)) (hb:xs.length<4611686018427387904) (fv:Value) (p:dF→Bool) (hy: ∀x∈xs,dn Tryz.prog base fv [x.ag] [] (fun v O'=>v=.bool (p x)∧O'=[])):
  bm Tryz.prog base 70 [.slice b xs.length c,fv] [] (fun v O'=>v=.bool (xs.any p)∧O'=[]):=by
 refine aw func70 F ntmps70 F ?_
 refine ai (aj F (ae (ai (ah F (ah F ?_)))))
 have AB:=yG base b c xs hS hb fv p hy
 refine ak F (aP PT AB F ?_)
 clear AB
 rintro v O' ⟨i,rfl,hi,rfl⟩
 refine ad (jF F F) (aj F (ae (aA (ap ?_))))
 refine aE (.bool (decide (i≥0))) Tryz.results70 F ?_
 exact⟨[],Sub.z,congrArg Value.bool (AQ hi),F⟩
theorem TD (base:World) [cG Tryz.prog base] (b lb:Option Addr) (c m lc lv:Nat) (xs:List UInt8) (l:List Int) (hx:xs.length=m) (hn: ∀n∈l,kI n) (hm:m+13*l.length≤800000):
  bm Tryz.prog base 112 [.slice b m c,.slice lb l.length lv] [am b c 5 1 (bZ xs),am lb lc 3 1 (ints l)] (fun v O'=> ∃b' c',v=.slice b' (m+(gi l).length) c'∧O'=[am b' c' 5 1 (bZ (xs++gi l)),am lb lc 3 1 (ints l)]):=by
 refine aw func112 F ntmps112 F ?_
 refine ai (aj F (ae (aB (ai (ah F (ad (bS bK F) (ah F (ae (aG ?_)))))))))
 refine cM (fun(i:Nat) ρ O=> ∃(jb:Option Addr) (jc:Nat),O=[am jb jc 5 1 (bZ (xs++gi (l.take i))),am lb lc 3 1 (ints l)]∧i≤l.length∧cw [(0,(.slice jb (m+(gi (l.take i)).length) jc)),(1,(.slice lb l.length lv)),(4,nS),(7,(.slice lb l.length lv)),(8,vI (l.length:Int)),(9,vN i)] ρ) (fun i=>l.length-i) 0 ?_ ?_
 ·exact⟨b,c,by simp[gi],Nat.zero_le _,⟨(by show Value.slice b m c=_;simp[gi]),F,F,F,F,F,trivial⟩⟩
 rintro i ρ O ⟨jb,jc,rfl,hi,hH⟩
 obtain⟨fE,rfl⟩:=hH.elim
 clear hH
 have Lt:=nh (l:=l.take i) fun n h=>hn n (List.mem_of_mem_take h)
 have eV:=List.length_take_le i l
 refine ai (ad (bT F F) (ae (aB (aC F (fun hc=>?_) (fun hc=>?_)))))
 ·have jJ:i<l.length:=by omega
  have hdl:=oE (hn _ (List.getElem_mem jJ))
  refine av (aB (aG (ai (ad (cV (i:=i) bK aO F F (cP (mG 1 F)) jJ (by rw[List.length_map];exact jJ)) (ad (cd cS F F (cP (mG 1 F)) (fp jJ)) (aj F (ae (aJ (ah F (ah F (ak F (aP yu (k7 [0] (Td base jb jc (m+(gi (l.take i)).length) (xs++gi (l.take i)) l[i] (by simp[hx]) (hn _ (List.getElem_mem jJ)) (by omega))) F ?_))))))))))))
  rintro vr O' ⟨A1,rfl,b2,c2,rfl,rfl⟩
  refine ak F (bM (v:=.int .u8 32) lj cI F F F (fun lX=>?_))
  refine ak F (bY 1 lj lj cI F F F F (by simp[hx,Nat.add_assoc]) (by decide) (Src.row (j:=0) F (by simp)) (by simp[dS]) (by have:=oE (hn _ (List.getElem_mem jJ));omega) (by decide) (by decide) (fun vd c3=>?_))
  refine aj F (ae (aJ (ad (cx (a:=i) (b:=1) F F (by omega)) (ah F (ae ?_)))))
  have e9:=Az jJ
  exact⟨i+1,by omega,[am vd c3 5 1 ((bZ (xs++gi (l.take i)++iQ l[i]))++[.int .u8 32]),am lb lc 3 1 (ints l)],(by exact Sub.d (.k (.k .z))),vd,c3,by rw[e9,←List.append_assoc,←List.append_assoc,show bZ (xs++gi (l.take i)++iQ l[i]++[32])=bZ (xs++gi (l.take i)++iQ l[i])++[Value.int .u8 32]from List.map_append],by omega,⟨(congrArg (fun n9=>Value.slice vd n9 c3) (show m+(gi (l.take i)).length+(iQ l[i]).length+1=m+(gi (l.take (i+1))).length by rw[e9];simp only[List.length_append,List.length_cons,List.length_nil,Nat.add_assoc])),F,F,F,F,F,trivial⟩⟩
 have ta: ¬i<l.length:=by omega
 refine bJ ?_
 refine ai (ah F (aj F (ae (aA ?_))))
 refine aE (.slice jb (m+(gi (l.take i)).length) jc) Tryz.results112 F ?_
 have uf:i=l.length:=by omega
 subst uf
 rw[List.take_length]
 exact⟨jb,jc,F,F⟩
theorem CJ (w:World) [cG Tryz.prog w] (k:Int) (s:Nat) (r:OB) (hr:Sl w r.b (eh r.o)) (hn: ∀n∈k::(s:Int)::qt r.o,kI n) (hl:r.o.length≤64):
  bI Tryz.prog 110 [.agg #[vI k,vN s,.slice r.b r.o.length r.c]] w fun v N=>v=str (gi (k::(s:Int)::qt r.o))∧N=[]:=by
 refine aw func110 F ntmps110 F ?_
 refine ai (ak F (cH (cs:=[vI k,vN s,(.slice r.b r.o.length r.c)]) F F (fun z1=>?_)))
 refine aj F (ae (ai (ad (aN jK F aO F F) (ad (aQ 0 cS F F F F) (ad (aN jK F aO F F) (ad (aQ 0 cS F F F F) (ak F (bH (m:=2) (parts:=[(0,.tmp 7),(1,.tmp 9)]) (cs:=[vI k,vN s]) bK aO (by decide) (by kernel_rfl) F (fun z2=>?_)))))))))
 refine ak F (aP sv (aI fun w1 hI=>(haveI:=di hI;D0 w1 (aD z2) 2 [k,(s:Int)] (hI.fV (mG 0 F)) (fun n h9=>hn n (by simp only[List.mem_cons,List.not_mem_nil,or_false]at h9⊢;rcases h9 with h9|h9<;>simp[h9])) (by simp))) F ?_)
 rintro vr O' ⟨N,rfl,jb,jc,rfl,rfl⟩
 refine aj F (ae (aB (ai (ad (aN jK F yH F F) (ad (aQ 2 gV F F F F) (ad (bS gV F) (ah F (ae (aG ?_)))))))))
 refine cM (fun(i:Nat) ρ O=> ∃(jb:Option Addr) (jc:Nat),O=[am jb jc 5 1 (bZ (gi (k::(s:Int)::qt (r.o.take i)))),am (aD z2) 2 3 1 [vI k,vN s],oI z1 169 [vI k,vN s,(.slice r.b r.o.length r.c)]]∧i≤r.o.length∧cw [(0,(.agg #[vI k,vN s,(.slice r.b r.o.length r.c)])),(1,(.pointer (aD z1))),(2,(str [])),(3,(.slice jb ((gi (k::(s:Int)::qt (r.o.take i))).length) jc)),(13,(.slice r.b r.o.length r.c)),(14,vI (r.o.length:Int)),(15,vN i)] ρ) (fun i=>r.o.length-i) 0 ?_ ?_
 ·exact⟨jb,jc,F,Nat.zero_le _,(.of F)⟩
 rintro i ρ O ⟨jb,jc,rfl,hi,hH⟩
 obtain⟨fE,rfl⟩:=hH.elim
 clear hH
 have Oy: ∀n∈k::(s:Int)::qt (r.o.take i),kI n:=fun n Y3=>hn n (by
  simp only[List.mem_cons]at Y3⊢
  rcases Y3 with h9|h9|h9
  ·exact .inl h9
  ·exact .inr (.inl h9)
  ·exact .inr (.inr (by obtain⟨p,hp,h8⟩:=List.mem_flatMap.1 h9;exact List.mem_flatMap.2 ⟨p,List.mem_of_mem_take hp,h8⟩)))
 have Lt:=nh Oy
 have PU:(qt (r.o.take i)).length≤128:=by rw[D7,List.length_take];omega
 simp only[List.length_cons]at Lt
 refine ai (ad (bT F F) (ae (aB (aC F (fun hc=>?_) (fun hc=>?_)))))
 ·have AS:i<r.o.length:=by omega
  refine av (aB (aG (ai (ad (cY (i:=i) gV fx F F (ay hr) AS (by rw[ii];omega)) (ad (dy (vs:=[vN (r.o[i].1),vN (r.o[i].2)]) iH F fx F F (Nat.succ_pos _) (ay hr) (ln AS)) (ak F (aR fx F (fun z3=>?_))))))))
  refine ak F (a8 (vs:=[vN (r.o[i].1),vN (r.o[i].2)]) 0 fx F F F F ?_)
  refine ae (aJ (ah F (ad (gT (i:=0) iH aO F F (by decide)) (ad (aQ 0 cS F F F F) (ad (gT (i:=1) iH aO F F (by decide)) (ad (aQ 0 cS F F F F) (ak F (bH (m:=2) (parts:=[(0,.tmp 21),(1,.tmp 23)]) (cs:=[vN (r.o[i].1),vN (r.o[i].2)]) bK aO (by decide) (by kernel_rfl) F (fun z4=>?_)))))))))
  have mw:=bm.under (A:=[am jb jc 5 1 (bZ (gi (k::(s:Int)::qt (r.o.take i)))),am (aD z4) 2 3 1 [vN (r.o[i].1),vN (r.o[i].2)]]) (B:=[oI z3 173 [vN (r.o[i].1),vN (r.o[i].2)],am (aD z2) 2 3 1 [vI k,vN s],oI z1 169 [vI k,vN s,(.slice r.b r.o.length r.c)]]) (O:=[am (aD z4) 2 3 1 [vN (r.o[i].1),vN (r.o[i].2)],oI z3 173 [vN (r.o[i].1),vN (r.o[i].2)],am jb jc 5 1 (bZ (gi (k::(s:Int)::qt (r.o.take i)))),am (aD z2) 2 3 1 [vI k,vN s],oI z1 169 [vI k,vN s,(.slice r.b r.o.length r.c)]]) (show bm _ _ _ _ _ (fun v O'=> ∃b' c',v=.slice b' (gi (k::(s:Int)::qt (r.o.take i))++gi [(r.o[i].1:Int),(r.o[i].2:Int)]).length c'∧O'=[am b' c' 5 1 (bZ (gi (k::(s:Int)::qt (r.o.take i))++gi [(r.o[i].1:Int),(r.o[i].2:Int)])),am (aD z4) 2 3 1 [vN (r.o[i].1),vN (r.o[i].2)]])from by
    have h9:=TD w jb (aD z4) jc (gi (k::(s:Int)::qt (r.o.take i))).length 2 2 (gi (k::(s:Int)::qt (r.o.take i))) [(r.o[i].1:Int),(r.o[i].2:Int)] F (fun n h9=>hn n (by
     have h8:n∈qt r.o:=List.mem_flatMap.2 ⟨r.o[i],List.getElem_mem AS,h9⟩
     exact List.mem_cons_of_mem _ (List.mem_cons_of_mem _ h8))) (by simp only[List.length_cons,List.length_nil];omega)
    rw[List.length_append]
    exact h9) (by exact Sub.dr [am (aD z4) 2 3 1 [vN (r.o[i].1),vN (r.o[i].2)],oI z3 173 [vN (r.o[i].1),vN (r.o[i].2)]] _ (.k (.k (.k (.k .z)))))
  refine ak F (aP sv mw F ?_)
  clear mw
  rintro vr O' ⟨A1,rfl,Vw,Vx,rfl,rfl⟩
  refine aj F (ae (aJ (ad (cx (a:=i) (b:=1) F F (by omega)) (ah F (ae ?_)))))
  have e9:gi (k::(s:Int)::qt (r.o.take (i+1)))=gi (k::(s:Int)::qt (r.o.take i))++gi [(r.o[i].1:Int),(r.o[i].2:Int)]:=by rw[List.take_succ_eq_append_getElem AS,IA,←List.cons_append,←List.cons_append,qo]
  exact⟨i+1,by omega,[am Vw Vx 5 1 (bZ (gi (k::(s:Int)::qt (r.o.take i))++gi [(r.o[i].1:Int),(r.o[i].2:Int)])),am (aD z2) 2 3 1 [vI k,vN s],oI z1 169 [vI k,vN s,(.slice r.b r.o.length r.c)]],(by exact Sub.k (.d (.d (.k (.k .z))))),Vw,Vx,by rw[e9],by omega,⟨F,F,F,(congrArg (fun n9:Nat=>Value.slice Vw n9 Vx) (by rw[e9,List.length_append])),F,F,F,trivial⟩⟩
 have TE: ¬i<r.o.length:=by omega
 refine bJ ?_
 refine ai (ah F (ad (zQ (l:=gi (k::(s:Int)::qt (r.o.take i))) lj ra eu F (mG 0 F) F) (aj F (ae (aA (ap ?_))))))
 refine aE (str (gi (k::(s:Int)::qt (r.o.take i)))) Tryz.results110 F ?_
 have uf:i=r.o.length:=by omega
 subst uf
 rw[List.take_length]
 exact⟨[],Sub.z,F,F⟩
theorem TF (w:World) [cG Tryz.prog w] (x y:CR) (zx:Nat) (hzx:Sl w (aD zx) x.cells) (hx:Sl w x.r.b (eh x.r.o)) (Kj: ∀n∈x.cf.nums,kI n) (TH:x.r.o.length≤64) (hy:Sl w y.r.b (eh y.r.o)) (hny: ∀n∈y.cf.nums,kI n) (hly:y.r.o.length≤64):
  bI Tryz.prog 166 [.agg y.cells.toArray,(cW (aD zx) 0)] w fun v N=>v=.bool (decide (y.cf.key=x.cf.key))∧N=[]:=by
 refine aw func166 F ntmps166 F ?_
 refine ai (ak F (cH (cs:=[vI y.k,vN y.s,(.slice y.r.b y.r.o.length y.r.c)]) F F (fun lX=>?_)))
 refine aj F (ae (aB ?_))
 refine eD [(0,0),(2,0),(1,1),(3,2),(4,2),(5,2)] ?_
 refine ao F (dh 0 jK F gO F F F) (ao F (dy (vs:=[vI x.k,vN x.s,(.slice x.r.b x.r.o.length x.r.c)]) jK F gO F F (Nat.succ_pos _) (ay hzx) (fun j hj=>by rw[Nat.zero_add];exact List.getElem?_eq_getElem hj)) ?_)
 refine bo F F (aP CK (aI fun w1 hI=>(haveI:=di hI;CJ w1 y.k y.s y.r (hI.sl hy) hny hly)) F ?_)
 rintro vr O' ⟨N,rfl,rfl,rfl⟩
 refine⟨by exact Sub.rf,?_⟩
 refine bq F F (aP CK (aI fun w1 hI=>(haveI:=di hI;CJ w1 x.k x.s x.r (hI.sl hx) Kj TH)) F ?_)
 rintro vr O' ⟨N,rfl,rfl,rfl⟩
 refine bq F F (dw F F (IB F F) ?_)
 refine bq F F (dw F F (bt F) ?_)
 refine bw ?_
 refine aA (ap ?_)
 refine aE (.bool (decide (y.cf.key=x.cf.key))) Tryz.results166 F ?_
 exact⟨[],Sub.z,F,F⟩
end Go.Proofs.YtgdbfideeeegmaaGreatDoor

namespace Go.Proofs.YtgdbfideeeegmaaGreatDoor
open Go.Lx Go.RowKit _root_.Go.Proofs.Tryz
theorem IC {ls:List Lf} {vs:Nat} (hG:gN ls vs) {l:List CR} {x:CR} (hl: ∀y∈l,gW ls y.cf) (hx:gW ls x.cf):(l.any fun y=>decide (y.cf.key=x.cf.key))=decide (x.cf∈l.map CR.cf):=by
 by_cases h:x.cf∈l.map CR.cf
 ·rw[decide_eq_true h]
  obtain⟨y,hy,e⟩:=List.mem_map.1 h
  exact List.any_eq_true.2 ⟨y,hy,decide_eq_true (by rw[e])⟩
 ·rw[decide_eq_false h,List.any_eq_false]
  intro y hy h9
  exact h (List.mem_map.2 ⟨y,hy,key_inj hG (hl y hy) hx (of_decide_eq_true h9)⟩)
theorem WY (base:World) [cG Tryz.prog base] {ls:List Lf} {vs:Nat} (hG:gN ls vs) (ov:Value) (zs:Nat) (bh:Value) (cb:Option Addr) (cc:Nat) (l:List CR) (p:List OB) (x:CR) (hl: ∀y∈l,gW ls y.cf) (hp: ∀y∈l,kn p y.r) (hx:gW ls x.cf) (Kd:kn p x.r) (hK:l.length<1099511627776):
  bm Tryz.prog base 114 [ov,(.pointer (aD zs)),(.agg #[vI x.k,vN x.s,(.slice x.r.b x.r.o.length x.r.c)])] ([oI zs 122 [bh,(.slice cb l.length cc)],am cb cc 169 3 (cr l)]++eI 173 p) (fun v O'=> ∃sx sy,v=.tuple #[]∧O'=[oI zs 122 [bh,(.slice sx ((wG l x).length) sy)],am sx sy 169 3 (cr (wG l x))]++eI 173 p):=by
 refine aw func114 F ntmps114 F ?_
 refine ai (ak F (cH (cs:=[vI x.k,vN x.s,(.slice x.r.b x.r.o.length x.r.c)]) F F (fun z1=>?_)))
 refine ae (ai (ad (dQ) (aj F (ae (ai (ah F (ad (aK F) (ad (aN ie F oO F F) (ad (aQ 1 lO F F F F) (ah F ?_))))))))))
 have Au:=fun(w1:World) (hI:Inv base ([oI z1 169 [vI x.k,vN x.s,(.slice x.r.b x.r.o.length x.r.c)],oI zs 122 [bh,(.slice cb l.length cc)],am cb cc 169 3 (cr l)]++(eI 173 p)) w1)=>(haveI:=di hI;(show bI _ _ _ _ (fun v N=>v=Value.bool (decide (x.cf∈l.map CR.cf))∧N=[])from by
   have h9:=oN w1 cb cc l (hI.fV (mG 2 F)) (by omega) ((.func (.func 166) #[] #[(cW (aD z1) 0)])) (fun y=>decide (y.cf.key=x.cf.key)) (fun y hy=>bQ (first:=[]) (args:=[(.agg #[vI y.k,vN y.s,(.slice y.r.b y.r.o.length y.r.c)])]) (eY:=[(cW (aD z1) 0)]) PV (TF w1 x y z1 (hI.iG (mG 0 F)) (kn.sl (T:=173) hI (fun it dZ=>List.mem_append_right _ dZ) Kd) (hx.num hG) (hx.PW hG) (kn.sl (T:=173) hI (fun it dZ=>List.mem_append_right _ dZ) (hp y hy)) ((hl y hy).num hG) ((hl y hy).PW hG)))
   rw[IC hG hl hx]at h9
   exact h9))
 refine ak F (aP ID (aI Au) F ?_)
 clear Au
 rintro vr O' ⟨N,rfl,rfl,rfl⟩
 refine ad (gy F) (ae (T.cond F (fun hc=>?_) (fun hc=>?_)))
 ·refine T.ds [oI z1 169 [vI x.k,vN x.s,(.slice x.r.b x.r.o.length x.r.c)],oI zs 122 [bh,(.slice cb l.length cc)]] [(0,0),(1,0),(2,0),(3,0),(4,0),(5,0),(6,1),(7,1),(8,0),(9,0),(10,2)] (by exact Sub.k (.k .z)) ?_
  refine ao F (az F) (ao F (az F) (ao F (aK F) (ao F (aN ie F oO F F) (ao F (aQ 1 lO F F F F) (ao F (dh 0 jK F gO F F F) ?_)))))
  refine bo F F (bH (m:=1) (parts:=[(0,_)]) (cs:=[vI x.k,vN x.s,(.slice x.r.b x.r.o.length x.r.c)]) lO gO (by decide) (by kernel_rfl) F (fun z2=>⟨by exact Sub.d (.k (.k .z)),?_⟩))
  refine bo F F (bY 3 lO lO gO F F F F (by rw[nl]) (by decide) (Src.row (j:=0) F (by simp)) (by simp[dS]) (by omega) (by decide) (by decide) (fun z3 l7=>⟨by exact Sub.d (.k (.k .z)),?_⟩))
  refine ao F (aK F) (ao F (aN ie F oO F F) ?_)
  refine bq F F (a8 (vs:=[(.slice z3 (l.length+1) l7)]) 2 oO F F F F ?_)
  refine bw ?_
  refine ap ?_
  refine pD.zero Tryz.results114 ?_
  have e9:wG l x=l++[x]:=if_neg (by simpa using hc)
  exact⟨[oI zs 122 [bh,(.slice z3 (l.length+1) l7)],am z3 l7 169 3 ((cr l)++[vI x.k,vN x.s,(.slice x.r.b x.r.o.length x.r.c)])]++eI 173 p,(by exact Sub.d (.d (.k (.k .rf)))),z3,l7,F,by rw[e9,AT,List.length_append];rfl⟩
 refine av (ap ?_)
 refine pD.zero Tryz.results114 ?_
 have e9:wG l x=l:=if_pos (by simpa using hc)
 exact⟨[oI zs 122 [bh,(.slice cb l.length cc)],am cb cc 169 3 (cr l)]++eI 173 p,(by exact Sub.d (.k (.k .rf))),cb,cc,F,by rw[e9]⟩
end Go.Proofs.YtgdbfideeeegmaaGreatDoor

namespace Go.Lx
open Go.RowKit
section
variable {P:Program} {base:World} {O:List Item} {ρ:Env} {dst:Option Nat} {t:TypeId} {p:String} {af:Array Edge} {g:Option (Nat×Bool)}
theorem C5 {T E:TypeId} {z:Value} {fy:Nat} (hu:P.underlying T=some (.array 2 E)) (hE:P.underlying E=some (.int .i64)) (hi:ey P E z 1 fy) (n:Nat) (a b c d:Int) (w:World):
  (Op.equalIn (n+2) T (.agg #[.int .i64 a,.int .i64 b]) (.agg #[.int .i64 c,.int .i64 d])).run P w=.ok (decide (a=c∧b=d)) w:=by
 have hs: ∀w,(Go.sizeOf E).run P w=.ok 1 w:=fun w=>bi hi w
 have he: ∀(u v:Int) w,(Op.equalIn (n+1) E (.int .i64 u) (.int .i64 v)).run P w=.ok (u==v) w:=fun u v w=>run_equalIn_int w n E .i64 .i64 u v hE
 have OC: ∀w,(isAgg E).run P w=.ok false w:=fun w=>by simp[isAgg,aT hE]
 rw[Op.equalIn]
 generalize hq:Op.equalIn (n+1) E=q at he
 simp only[Sem.run_bind,aT hu,Result.andThen_ok,hs]
 by_cases h1:a=c
 ·by_cases h2:b=d
  ·subst h1 h2
   simp[List.range',part,he,OC,hs,hq]
  ·subst h1
   simp[List.range',part,he,OC,hs,h2,hq]
 ·simp[List.range',part,he,OC,hs,h1,hq]
theorem FO {x y:Operand} {T U E:TypeId} {a b c d:Int} {z:Value} {fy:Nat} (hu:P.underlying T=some (.array 2 E)) (hE:P.underlying E=some (.int .i64)) (hi:ey P E z 1 fy) (hm:P.eqGuardType P.depth T=false)
  (hx:ev ρ x=.agg #[.int .i64 a,.int .i64 b]) (hy:ev ρ y=.agg #[.int .i64 c,.int .i64 d]):QT P base ⟨dst,.binOp .eql T x y U,t,p,af,g⟩ ρ O (.bool (decide (a=c∧b=d))):=fun w _=>by
 have h:=C5 hu hE hi 9998 a b c d w
 simp[execOp,hx,hy,run_eqGuard_agg w .eql T x y _ _ hm,run_eql_struct,h]
theorem vq {x:Operand} {T E:TypeId} {b m fy:Nat} {z:Value} (hu:P.underlying T=some (.array m E)) (hi:ey P E z 1 fy) (hx:ev ρ x=.pointer (some ⟨b,0,none⟩)) (h0:1≤m):
  QT P base ⟨dst,.slice T x none none none,t,p,af,g⟩ ρ O (.slice (some ⟨b,0,none⟩) m m):=fun w hI=>by
 simp[execOp,Instr.sliceAt,Instr.sureAddr,hx,aT hu,bi hi,Instr.sliceBounds,o_]
end
theorem LN {n:Nat} (h:n<18446744073709551616):IntKind.u64.wrap (n:Int)=(n:Int):=by simp[IntKind.wrap,IntKind.bits,IntKind.signed];omega
end Go.Lx

namespace Go.Proofs.YtgdbfideeeegmaaGreatDoor
open Go.Lx Go.RowKit _root_.Go.Proofs.Tryz
theorem TI (w:World) [cG Tryz.prog w] (a:Int):
  bI Tryz.prog 240 [vI a] w fun v N=>v=.bool false∧N=[]:=by
 refine aw func240 F ntmps240 F ?_
 refine ai (aj F (ae (ai (ah F (ah F (ad (a7 (cT F F) (v':=.bool false) (by simp)) (aj F (ae (aA (ap ?_))))))))))
 refine aE (.bool false) Tryz.results240 F ?_
 exact⟨[],Sub.z,F,F⟩
theorem gtC (w:World) [cG Tryz.prog w] (a b:Int) (h:b<a):
  bI Tryz.prog 213 [vI a,vI b] w fun v N=>v=vI 1∧N=[]:=by
 refine aw func213 F ntmps213 F ?_
 refine ai (aj F (ae (ai (ah F (ak F (aP IE (aI fun w1 hI=>(haveI:=di hI;TI w1 a)) F ?_))))))
 rintro vr O' ⟨N,rfl,rfl,rfl⟩
 refine aj F (ae (ai (ah F (ak F (aP IE (aI fun w1 hI=>(haveI:=di hI;TI w1 b)) F ?_)))))
 rintro vr O' ⟨N,rfl,rfl,rfl⟩
 refine aj F (ae (aB (ai (ah F (ae (aL F (av (aB (ai (ah F (ae ?_)))))))))))
 refine aL F (av (aB (ai (ah F (ah F (ad (aq (bT F F) (decide_eq_false (by omega))) (ae (aL F (av (aB (ai (ah F (ah F (ad (aq (fW F F) (decide_eq_true (by omega))) (ae ?_)))))))))))))))
 refine bj F ?_
 refine ai (aj F (ae (aA (ap ?_))))
 refine aE (vI 1) Tryz.results213 F ?_
 exact⟨[],Sub.z,F,F⟩
theorem TJ (w:World) [cG Tryz.prog w] (a1 a2:Int) (ba:Option Addr) (ca:Nat) (ha:Sl w ba [vI a1,vI a2]) (b1 b2:Int) (bb:Option Addr) (cb:Nat) (hb:Sl w bb [vI b1,vI b2]) (h:b1<a1):
  bI Tryz.prog 165 [.slice ba 2 ca,.slice bb 2 cb] w fun v N=>v=vI 1∧N=[]:=by
 refine aw func165 F ntmps165 F ?_
 refine ai (aj F (ae (aB (ai (ah F (ad (bS bK F) (ah F (ae (aG ?_)))))))))
 refine dm (fun(k:Nat) ρ O=>O=[]∧k=0∧cw [(0,(.slice ba 2 ca)),(1,(.slice bb 2 cb)),(9,(.slice ba 2 ca)),(10,vI (2:Int)),(11,vN k)] ρ) (fun k=>2-k) 0 ?_ ?_
 ·exact⟨F,F,(.of F)⟩
 rintro k ρ O ⟨rfl,hk,hH⟩
 obtain⟨fE,rfl⟩:=hH.elim
 clear hH
 refine ai (ad (aq (bT F F) (decide_eq_true (by omega))) (ae (aB ?_)))
 refine bj F ?_
 refine av (aB (aG (ai (ah F (ad (cV (i:=k) bK aO F F (ay ha) (by omega) (by simp;omega)) (ad (cd cS F F (ay ha) (by rw[hk];rfl)) (aj F (aj F (ae (aB (ai (ah F (ah F (ad (bS bK F) (ad (aq (jF F F) (decide_eq_false (by omega))) (ae (aL F (av (ai ?_)))))))))))))))))))
 refine ah F (ah F (ad (cV (i:=k) bK aO F F (ay hb) (by omega) (by simp;omega)) (ad (cd cS F F (ay hb) (by rw[hk];rfl)) (aj F (ae (ai (ah F (ah F (ak F (aP PY (aI fun w1 hI=>(haveI:=di hI;gtC w1 a1 b1 h)) F ?_))))))))))
 rintro vr O' ⟨N,rfl,rfl,rfl⟩
 refine aj F (ae (ai (ah F (ad (aq (cT F F) (decide_eq_true (by decide))) (ae ?_)))))
 refine bj F ?_
 refine ai (ah F (aj F (ae (aA (ap ?_)))))
 refine aE (vI 1) Tryz.results165 F ?_
 exact⟨[],Sub.z,F,F⟩
theorem TK (w:World) [cG Tryz.prog w] (p r:Ob) (h:r.1<p.1):
  bI Tryz.prog 164 [(.agg #[vN p.1,vN p.2]),(.agg #[vN r.1,vN r.2])] w fun v N=>v=vI 1∧N=[]:=by
 refine aw func164 F ntmps164 F ?_
 refine ai (ak F (cH (cs:=[vN p.1,vN p.2]) F F (fun z1=>?_)))
 refine ak F (cH (cs:=[vN r.1,vN r.2]) F F (fun z2=>?_))
 refine aj F (ae (aB ?_))
 refine eD [(0,0),(1,0),(2,2),(3,2)] ?_
 refine ao F (vq iH aO F (by omega)) (ao F (vq iH aO F (by omega)) ?_)
 refine bq F F (aP PZ (aI fun w1 hI=>(haveI:=di hI;TJ w1 (p.1:Int) (p.2:Int) _ 2 (hI.iG (mG 1 F)) (r.1:Int) (r.2:Int) _ 2 (hI.iG (mG 0 F)) (by omega))) F ?_)
 rintro vr O' ⟨N,rfl,rfl,rfl⟩
 refine bq F F (dw F F (bt F) ?_)
 refine bw ?_
 refine aA (ap ?_)
 refine aE (vI 1) Tryz.results164 F ?_
 exact⟨[],Sub.z,F,F⟩
theorem TL (w:World) [cG Tryz.prog w] (b:Option Addr) (c:Nat) (o:List Ob) (hS:Sl w b (eh o)) (ha:o.Pairwise fun p q=>p.1<q.1) (hl:o.length≤12):
  bI Tryz.prog 232 [.slice b o.length c,vI 0,vN o.length,(.func (.func 164) #[] #[])] w fun v N=>v=.tuple #[]∧N=[]:=by
 refine aw func232 F ntmps232 F ?_
 refine ai (ah F (ad (a7 (cL F F (by omega)) (v':=vN 1) F) (aj F (ae (aG ?_)))))
 refine dm (fun(i:Nat) ρ O=>O=[]∧1≤i∧cw [(0,(.slice b o.length c)),(1,vI 0),(2,vN o.length),(3,(.func (.func 164) #[] #[])),(8,vN i)] ρ) (fun i=>o.length-i) 1 ?_ ?_
 ·exact⟨F,Nat.le_refl _,(.of F)⟩
 rintro i ρ O ⟨rfl,hi,hH⟩
 obtain⟨fE,rfl⟩:=hH.elim
 clear hH
 refine aB (ai (ah F (ah F (ad (bT F F) (ae (aC F (fun hc=>?_) (fun hc=>?_)))))))
 ·have nF:i<o.length:=by omega
  have VA:i<o.length:=by omega
  refine av (aB (aG (ai (ah F (aj F (ae (aG ?_)))))))
  refine dm (fun(j:Nat) ρ O=>O=[]∧j=i∧cw [(0,(.slice b o.length c)),(1,vI 0),(2,vN o.length),(3,(.func (.func 164) #[] #[])),(8,vN i),(9,vN j)] ρ) (fun j=>j) i ?_ ?_
  ·exact⟨F,F,(.of F)⟩
  rintro j ρ O ⟨rfl,Dq,hH⟩
  obtain⟨fE,rfl⟩:=hH.elim
  clear hH
  have VB:j<o.length:=by omega
  have VC:o[j-1].1<o[j].1:=(List.pairwise_iff_getElem.1 ha) (j-1) j (by omega) (by omega) (by omega)
  refine aB (aB ?_)
  refine eD [(0,0),(1,0),(2,0),(3,0),(4,0),(5,0),(6,0),(7,0),(8,0),(9,0),(10,0),(11,0),(12,0),(13,0),(14,2),(15,2),(16,2)] ?_
  refine ao F (az F) (ao F (az F) (ao F (aq (fW F F) (decide_eq_true (by omega))) (ao F (az F) ?_)))
  refine aS F F F (az F) ?_
  refine aS F F F (az F) ?_
  refine aS F F F (az F) ?_
  refine aS F F F (cY (i:=j) gV fx F F (ay hS) (by omega) (by rw[ii];omega)) ?_
  refine aS F F F (dy (vs:=[vN ((o[j]'(by omega)).1),vN ((o[j]'(by omega)).2)]) iH F fx F F (Nat.succ_pos _) (ay hS) (ln (show j<o.length by omega))) ?_
  refine aS F F F (az F) ?_
  refine aS F F F (az F) ?_
  refine aS F F F (a7 (ez F F (by omega)) (v':=vN (j-1)) (congrArg (Value.int .i64) (by omega))) ?_
  refine aS F F F (cY (i:=(j-1)) gV fx F F (ay hS) (by omega) (by rw[ii];omega)) ?_
  refine aS F F F (dy (vs:=[vN ((o[j-1]'(by omega)).1),vN ((o[j-1]'(by omega)).2)]) iH F fx F F (Nat.succ_pos _) (ay hS) (ln (show j-1<o.length by omega))) ?_
  have HJ:=(cD (base:=w) (O:=[]) fun w1 hI=>haveI:=di hI;bQ (first:=[]) (args:=[(.agg #[vN (o[j].1),vN (o[j].2)]),(.agg #[vN (o[j-1].1),vN (o[j-1].2)])]) (eY:=[]) P0 (TK w1 _ _ VC))
  refine qi F F F F (dx HJ F F ?_)
  clear HJ
  rintro vr O' ⟨N,rfl,rfl,rfl⟩
  refine qi F F F F (dw F F (aq (bT F F) (decide_eq_false (by decide))) ?_)
  refine bq F F (dw F F (bu F F) ?_)
  refine bw ?_
  refine aL F ?_
  refine bJ ?_
  refine aJ (ah F (ad (cx (a:=i) (b:=1) F F (by omega)) (aj F (ae ?_))))
  exact⟨i+1,by omega,F,by omega,(.of F)⟩
 have vu: ¬i<o.length:=by omega
 refine bJ ?_
 refine ap ?_
 refine pD.zero Tryz.results232 ?_
 exact⟨[],Sub.z,F,F⟩
theorem TM (w:World) [cG Tryz.prog w] (b:Option Addr) (c:Nat) (o:List Ob) (hS:Sl w b (eh o)) (ha:o.Pairwise fun p q=>p.1<q.1) (hl:o.length≤12) (lim:Int):
  bI Tryz.prog 212 [.slice b o.length c,vI 0,vN o.length,vI lim,(.func (.func 164) #[] #[])] w fun v N=>v=.tuple #[]∧N=[]:=by
 refine aw func212 F ntmps212 F ?_
 refine ai (aj F (ae (ai (aj F (ae (aG ?_))))))
 refine mZ 1 (T.round ?_)
 refine aG (ai ?_)
 refine ah F (ah F (ad (a7 (ez F F (by omega)) (v':=vN o.length) (congrArg (Value.int .i64) (by omega))) (aj F (ae (aB (ai (ah F (ad (aq (Dr F F) (decide_eq_true (by omega))) (ae ?_)))))))))
 refine bj F ?_
 refine ai (ah F (ah F (ah F (ah F (ak F (aP P1 (aI fun w1 hI=>(haveI:=di hI;TL w1 b c o (hI.sl hS) ha hl)) F ?_))))))
 rintro vr O' ⟨N,rfl,rfl,rfl⟩
 refine ae (aA (ap ?_))
 refine pD.zero Tryz.results212 ?_
 exact⟨[],Sub.z,F,F⟩
theorem IF (w:World) [cG Tryz.prog w] (n:Nat) (hn:n<1000):bI Tryz.prog 159 [.int .u64 (n:Int)] w fun v N=>v=vI (Lib.bitLen n:Int)∧N=[]:=fun w1 M hI=>by
 have h:=Go.Proofs.Any.bits_Len (P:=Tryz.prog) (ρ:=Tryz.tv) {Tryz.yI with} (n:Int) w1 (by omega) (by omega)
 rw[Int.toNat_natCast]at h
 refine h.mono ?_
 rintro e w' ⟨rfl,rfl⟩
 exact⟨_,_,F,hI,F,F⟩
theorem P2 (w:World) [cG Tryz.prog w] (b:Option Addr) (c:Nat) (o:List Ob) (hS:Sl w b (eh o)) (ha:o.Pairwise fun p q=>p.1<q.1) (hl:o.length≤12):
  bI Tryz.prog 163 [.slice b o.length c,(.func (.func 164) #[] #[])] w fun v N=>v=.tuple #[]∧N=[]:=by
 refine aw func163 F ntmps163 F ?_
 refine ai (ah F (ad (bS gV F) (aj F (ae (aJ (ah F (ah F (ah F (ad (et cS M8 F (LN (by omega))) (ak F (aP P3 (aI fun w1 hI=>(haveI:=di hI;IF w1 o.length (by omega))) F ?_)))))))))))
 rintro vr O' ⟨N,rfl,rfl,rfl⟩
 refine ah F (ak F (aP P4 (aI fun w1 hI=>(haveI:=di hI;TM w1 b c o (hI.sl hS) ha hl (Lib.bitLen o.length:Int))) F ?_))
 rintro vr O' ⟨N,rfl,rfl,rfl⟩
 refine ae (ap ?_)
 refine pD.zero Tryz.results163 ?_
 exact⟨[],Sub.z,F,F⟩
theorem P5 (w:World) [cG Tryz.prog w] (b:Option Addr) (c:Nat) (o:List Ob) (hS:Sl w b (eh o)) (hl:o.length≤12) (x:Ob) (hx: ∀p∈o,p.1<x.1):
  bI Tryz.prog 211 [.slice b o.length c,(.agg #[vN x.1,vN x.2])] w fun v N=>v=vI (-1)∧N=[]:=by
 refine aw func211 F ntmps211 F ?_
 refine ai (ak F (cH (cs:=[vN x.1,vN x.2]) F F (fun lX=>?_)))
 refine aj F (ae (aB (ai (ah F (ad (bS gV F) (ah F (ae (aG ?_))))))))
 refine dm (fun(i:Nat) ρ O=>O=[oI lX 173 [vN x.1,vN x.2]]∧i≤o.length∧cw [(0,(.slice b o.length c)),(1,(.agg #[vN x.1,vN x.2])),(3,(.pointer (aD lX))),(7,vI (o.length:Int)),(8,vN i)] ρ) (fun i=>o.length-i) 0 ?_ ?_
 ·exact⟨F,Nat.zero_le _,(.of F)⟩
 rintro i ρ O ⟨rfl,hi,hH⟩
 obtain⟨fE,rfl⟩:=hH.elim
 clear hH
 refine ai (ad (bT F F) (ae (aB (aC F (fun hc=>?_) (fun hc=>?_)))))
 ·have iS:i<o.length:=by omega
  have VA:i<o.length:=by omega
  have ue:=hx _ (List.getElem_mem VA)
  refine av (aB (aG (ai (ah F (aj F (ae (aB ?_)))))))
  refine eD [(0,0),(1,0),(2,0),(3,0),(4,0),(5,0)] ?_
  refine ao F (dh 0 iH F fx F F F) (ao F (az F) (ao F (az F) (ao F (cY (i:=i) gV fx F F (ay hS) VA (by rw[ii];omega)) (ao F (dy (vs:=[vN (o[i].1),vN (o[i].2)]) iH F fx F F (Nat.succ_pos _) (ay hS) (ln VA)) (ao F (a7 (FO iH cS aO (by kernel_rfl) F F) (v':=.bool false) (congrArg Value.bool (decide_eq_false (by omega)))) ?_)))))
  refine bw ?_
  refine aL F (av (aJ (ad (cx (a:=i) (b:=1) F F (by omega)) (ah F (ae ?_)))))
  exact⟨i+1,by omega,F,by omega,(.of F)⟩
 have HW: ¬i<o.length:=by omega
 refine bJ ?_
 refine ai (aj F (ae (aA (ap ?_))))
 refine aE (vI (-1)) Tryz.results211 F ?_
 exact⟨[],Sub.z,F,F⟩
theorem FP (w:World) [cG Tryz.prog w] (b:Option Addr) (c:Nat) (o:List Ob) (hS:Sl w b (eh o)) (hl:o.length≤12) (x:Ob) (hx: ∀p∈o,p.1<x.1):
  bI Tryz.prog 161 [.slice b o.length c,(.agg #[vN x.1,vN x.2])] w fun v N=>v=.bool false∧N=[]:=by
 refine aw func161 F ntmps161 F ?_
 refine ai (ak F (cH (cs:=[vN x.1,vN x.2]) F F (fun lX=>?_)))
 refine aj F (ae (ai (ah F (ad (dh 0 iH F fx F F F) (ak F (aP P6 (aI fun w1 hI=>(haveI:=di hI;P5 w1 b c o (hI.sl hS) hl x hx)) F ?_))))))
 rintro vr O' ⟨N,rfl,rfl,rfl⟩
 refine ad (a7 (jF F F) (v':=.bool false) F) (aj F (ae (aA (ap ?_))))
 refine aE (.bool false) Tryz.results161 F ?_
 exact⟨[],Sub.z,F,F⟩
theorem CL (o:List Ob):((eh o).all dS)=true:=by
 rw[List.all_eq_true]
 intro v hv
 obtain⟨p,_,hv⟩:=List.mem_flatMap.1 hv
 simp only[List.mem_cons,List.not_mem_nil,or_false]at hv
 rcases hv with rfl|rfl<;>rfl
theorem FQ (w:World) [cG Tryz.prog w] (c:Nat):
  bI Tryz.prog 162 [.slice none 0 c] w fun v N=> ∃b' c',v=.slice b' 0 c'∧N=[am b' c' 173 2 []]:=by
 refine aw func162 F ntmps162 F ?_
 refine ai (aj F (ae (aB (ai (ah F (ad (zR gV F F) (ae ?_)))))))
 refine bj F ?_
 refine aB (T.dJ 173 2 ?_)
 refine aJ (aj F (ae (aA ?_)))
 refine aE nS Tryz.results162 F ?_
 exact⟨_,_,F,F⟩
theorem CM (w:World) [cG Tryz.prog w] (a:Addr) (c:Nat) (o:List Ob) (h1:Sl w (some a) (eh o)) (hb:o.length≤12):
  bI Tryz.prog 162 [.slice (some a) o.length c] w fun v N=> ∃b' c',v=.slice b' o.length c'∧N=[am b' c' 173 2 (eh o)]:=by
 refine aw func162 F ntmps162 F ?_
 refine ai (aj F (ae (aB (ai (ah F (ad (zR gV F F) (ae (aL F (av (ai (ak F (bH (m:=0) (parts:=[]) (cs:=[]) gV fx (by decide) (by simp[Instr.fill]) F (fun b1=>?_)))))))))))))
 refine ah F (ak F (bY 0 gV gV fx F F F F (by simp) (by decide) (Src.sl h1 (by rw[ii])) (CL o) (by omega) (by decide) (by decide) (fun lX c2=>?_)))
 refine aj F (ae (aA ?_))
 refine aE (.slice lX (0+o.length) c2) Tryz.results162 F ?_
 exact⟨_,_,by rw[Nat.zero_add],F⟩
theorem IG (w:World) [cG Tryz.prog w] (b:Option Addr) (c:Nat) (o:List Ob) (h1:Sl w b (eh o)) (hb:o.length≤12):
  bI Tryz.prog 162 [.slice b o.length c] w fun v N=> ∃b' c',v=.slice b' o.length c'∧N=[am b' c' 173 2 (eh o)]:=by
 cases b with
 |none=>
  have hx:o=[]:=by
   cases o with
   |nil=>rfl
   |cons x xs=>obtain⟨_,_,e⟩:=h1.addr (i:=0) (by simp[eh]);cases e
  subst hx
  exact FQ w c
 |some a=>exact CM w a c o h1 hb
end Go.Proofs.YtgdbfideeeegmaaGreatDoor

namespace Go.Proofs.YtgdbfideeeegmaaGreatDoor
open Go.Lx Go.RowKit _root_.Go.Proofs.Tryz
theorem oP {ls:List Lf} {ks:List LK} {k:Nat} (hk:ks.length=ls.length) (h:k<ls.length) (j:Nat) {v:Value} (hv:(jf (lf ls k) (lk ks k))[j]? =some v) {n:Nat} (hn:n=k*7+j):(cj ls ks)[n]? =some v:=by
 obtain⟨hj,rfl⟩:=List.getElem?_eq_some_iff.1 hv
 subst hn
 exact vv hk h j hj
theorem TN (w:World) [cG Tryz.prog w] (ob:Nat) (lb:Option Addr) (lc:Nat) (cv fv:Value) (ls:List Lf) (ks:List LK) (ho:jv w ob lb lc cv fv ls ks) (vs:Nat) (hG:gN ls vs) (r:OB) (hr:Sl w r.b (eh r.o)) (x:Ob) (m:Nat) (BQ:eB ls m r.o) (hm:m≤x.1) (hk:x.1<ls.length) (hs:x.2<(lf ls x.1).d.next.length):
  bI Tryz.prog 113 [(cW (aD ob) 0),.slice r.b r.o.length r.c,(.agg #[vN x.1,vN x.2])] w fun v N=> ∃pl r2,v=OB.val r2∧N=eI 173 pl∧r2.o=rv ls r.o x∧((pl=[]∧r2=r)∨pl=[r2]):=by
 refine aw func113 F ntmps113 F ?_
 have hv:=hG.iI hk
 have gv:=hG.len
 have PU:=BQ.len
 refine ai (ak F (cH (cs:=[vN x.1,vN x.2]) F F (fun z1=>?_)))
 refine aj F (ae (aB (aB ?_)))
 refine eD [(0,0),(1,0),(2,0),(3,0),(4,0),(5,0),(6,0),(7,0),(8,0),(9,0),(10,0),(11,0),(12,0),(13,0),(14,0),(15,0),(16,0),(17,2),(18,2)] ?_
 refine ao F (az F) (ao F (aK F) (ao F (br e8 F fe F F (ay ho.bx) (by first|omega|(simp;done)|(simp;omega)|(simp_all;done)|(simp_all;omega))) (ao F (cd d_ F F (ay ho.bx) F) (ao F (gT (i:=0) iH aO F F (by decide)) (ao F (aQ 0 cS F F F F) (ao F (cY (i:=x.1) d_ dN F F (ay ho.rw) hk (by rw[cU ho.kl];omega)) (ao F (br fX F aY F F (ay ho.rw) (by rw[cU ho.kl];omega)) (ao F (br bW F cA F F (ay ho.rw) (by rw[cU ho.kl];show x.1*7+1<_;omega)) (ao F (cd df F F (ay ho.rw) (oP ho.kl hk 4 F F)) (ao F (gT (i:=1) iH aO F F (by decide)) (ao F (aQ 0 cS F F F F) (ao F (cV (i:=x.2) df dU F F (ay (ho.dk _ hk).ax) (by rw[hv.fin];exact hs) (by rw[List.length_map,hv.fin];exact hs)) (ao F (cd zi F F (ay (ho.dk _ hk).ax) (mR hv hs)) ?_)))))))))))))
 by_cases kY:cF (lf ls x.1).d x.2=true
 ·refine ao F (aq (az F) (kY)) ?_
  refine a6 F F F (a6 F F F ?_)
  refine x_ (by decide) F F F F F ?_
  refine bq F F (dw F F (bu F F) ?_)
  refine bw ?_
  refine bj F ?_
  refine ai (ah F (aj F (ae (aA (ap ?_)))))
  refine aE (.slice r.b r.o.length r.c) Tryz.results113 F ?_
  have e9:rv ls r.o x=r.o:=if_pos kY
  exact⟨[],Sub.z,[],r,by first|rfl|(rw[e9];rfl),F,e9.symm,.inl ⟨F,F⟩⟩
 refine ao F (aq (az F) (Bool.eq_false_iff.2 kY)) ?_
 refine aS F F F (az F) ?_
 refine aS F F F (dh 0 iH F fx F F F) ?_
 have mw:=fun(w1:World) (hI:Inv w [oI z1 173 [vN x.1,vN x.2]] w1)=>(haveI:=di hI;FP w1 r.b r.c r.o (hI.sl hr) (by omega) x (fun p hp=>Nat.lt_of_lt_of_le (BQ.2 p hp).1 hm))
 refine qi F F F F (aP P7 (aI mw) F ?_)
 clear mw
 rintro vr O' ⟨N,rfl,rfl,rfl⟩
 refine bq F F (dw F F (bl F F) ?_)
 refine bw ?_
 refine aL F (av ?_)
 refine e7 (fun ρ O=> ∃(ab:Option Addr) (ac zb:Nat),O=[am ab ac 173 2 ((eh r.o)++[vN x.1,vN x.2]),am (aD zb) 1 173 2 [vN x.1,vN x.2],oI z1 173 [vN x.1,vN x.2]]∧cw [(0,(cW (aD ob) 0)),(1,(.slice r.b r.o.length r.c)),(2,(.agg #[vN x.1,vN x.2])),(5,(.pointer (aD z1))),(6,nS),(7,(.slice ab (r.o.length+1) ac))] ρ) ?_ ?_
 ·refine ma [oI z1 173 [vN x.1,vN x.2]] 6 mixed F (by exact Sub.rf) (fun _ _ _ _ h=>h) ?_
  refine bF 0 F (by kernel_rfl) (az F) ?_
  refine bF 2 F (by kernel_rfl) (dh 0 iH F fx F F F) ?_
  have rj:=fun(w1:World) (hI:Inv w [oI z1 173 [vN x.1,vN x.2]] w1)=>(haveI:=di hI;IG w1 r.b r.c r.o (hI.sl hr) (by omega))
  refine aM [1,3] (by kernel_rfl) F ⟨⟨_,F,F,aP IH (aI rj) F ?_⟩,⟨_,F,F,bH (m:=1) (parts:=[(0,_)]) (cs:=[vN x.1,vN x.2]) gV fx (by decide) (by kernel_rfl) F (fun zb=>⟨by exact Sub.d (.k .z),?_⟩)⟩,trivial⟩
  ·clear rj
   rintro vr O' ⟨N,rfl,nb,nc,rfl,rfl⟩
   refine⟨by exact Sub.d (.k .z),?_⟩
   refine aM [3] (by kernel_rfl) F ⟨⟨_,F,F,bH (m:=1) (parts:=[(0,_)]) (cs:=[vN x.1,vN x.2]) gV fx (by decide) (by kernel_rfl) F (fun zb=>⟨by exact Sub.d (.d (.k .z)),?_⟩)⟩,trivial⟩
   refine aM [4] (by kernel_rfl) F ⟨⟨_,F,F,bY 1 gV gV fx F F F F (by rw[ii]) (by decide) (Src.row (j:=0) F (by simp)) (by simp[dS]) (by omega) (by decide) (by decide) (fun ab ac=>⟨by exact Sub.d (.d (.k .z)),?_⟩)⟩,trivial⟩
   refine bF 5 F (by kernel_rfl) (bt F) ?_
   exact cz (by kernel_rfl) ⟨ab,ac,zb,F,(.of F)⟩ (by exact Sub.dr [am (aD zb) 1 173 2 [vN x.1,vN x.2]] _ (.k (.k .z)))
  have rj:=fun(w1:World) (hI:Inv w [am (aD zb) 1 173 2 [vN x.1,vN x.2],oI z1 173 [vN x.1,vN x.2]] w1)=>(haveI:=di hI;IG w1 r.b r.c r.o (hI.sl hr) (by omega))
  refine aM [1] (by kernel_rfl) F ⟨⟨_,F,F,aP IH (aI rj) F ?_⟩,trivial⟩
  clear rj
  rintro vr O' ⟨N,rfl,nb,nc,rfl,rfl⟩
  refine⟨by exact Sub.d (.d (.k .z)),?_⟩
  refine aM [4] (by kernel_rfl) F ⟨⟨_,F,F,bY 0 gV gV fx F F F F (by rw[ii]) (by decide) (Src.row (j:=1) F (by simp)) (by simp[dS]) (by omega) (by decide) (by decide) (fun ab ac=>⟨by exact Sub.d (.d (.k .z)),?_⟩)⟩,trivial⟩
  refine bF 5 F (by kernel_rfl) (bt F) ?_
  exact cz (by kernel_rfl) ⟨ab,ac,zb,F,(.of F)⟩ (by exact Sub.rf)
 rintro ρ O ⟨ab,ac,zb,rfl,hH⟩
 obtain⟨fE,rfl⟩:=hH.elim
 clear hH
 refine ai (ah F ?_)
 have Hz:=fun(w1:World) (hI:Inv w [am ab ac 173 2 ((eh r.o)++[vN x.1,vN x.2]),am (aD zb) 1 173 2 [vN x.1,vN x.2],oI z1 173 [vN x.1,vN x.2]] w1)=>(haveI:=di hI;(show bI _ _ _ _ (fun v N=>v=Value.tuple #[]∧N=[])from by
   have h9:=P2 w1 ab ac (r.o++[x]) (by rw[tw];exact hI.fV (mG 0 F)) (List.pairwise_append.2 ⟨BQ.1,List.pairwise_singleton _ _,fun p hp q hq=>by rw[List.mem_singleton.1 hq];exact Nat.lt_of_lt_of_le (BQ.2 p hp).1 hm⟩) (by rw[List.length_append];simp;omega)
   rw[List.length_append]at h9
   exact h9))
 refine ak F (aP P8 (aI Hz) F ?_)
 clear Hz
 rintro vr O' ⟨N,rfl,rfl,rfl⟩
 refine ae (ai (ah F (aj F (ae (aA (ap ?_))))))
 refine aE (.slice ab (r.o.length+1) ac) Tryz.results113 F ?_
 have e9:rv ls r.o x=r.o++[x]:=if_neg kY
 exact⟨[am ab ac 173 2 ((eh r.o)++[vN x.1,vN x.2])],(by exact Sub.k .z),[⟨ab,ac,r.o++[x]⟩],⟨ab,ac,r.o++[x]⟩,by show _=Value.slice _ (r.o++[x]).length _;rw[List.length_append];rfl,by show[_]=[am _ _ _ _ (eh (r.o++[x]))];rw[tw],e9.symm,.inr F⟩
end Go.Proofs.YtgdbfideeeegmaaGreatDoor

namespace Go.Proofs.YtgdbfideeeegmaaGreatDoor
open Go.Lx Go.RowKit _root_.Go.Proofs.Tryz
def oQ (base:World) (f:FuncId) (args:List Value) (zs:Nat) (bb:Option Addr) (bc kv:Nat) (bh:List Nat) (ls:List Lf) (r:OB) (E:List Cf):Prop:= ∀(cb:Option Addr) (cc:Nat) (l:List CR) (p:List OB),jC ls l p→kn p r→
 bm Tryz.prog base f args ([cR zs (.cells (List.toArray [(.slice bb bh.length bc),(.slice cb l.length cc)]) 122 (0,0)),am cb cc 169 3 (cr l),am bb kv 3 1 (aX bh)]++eI 173 p) (fun v O'=> ∃sx sy l' p',v=.tuple #[]∧O'=[cR zs (.cells (List.toArray [(.slice bb bh.length bc),(.slice sx l'.length sy)]) 122 (0,0)),am sx sy 169 3 (cr l'),am bb kv 3 1 (aX bh)]++eI 173 p'∧l'.map CR.cf=E.foldl add (l.map CR.cf)∧jC ls l' p'∧(∀x∈p,x∈p'))
theorem P9 (base:World) [cG Tryz.prog base] {ls:List Lf} {vs:Nat} (hG:gN ls vs) {K:Nat} (hK:oC ls K) (vw:K<1099511627776) (ov:Value) (zs:Nat) (bb:Option Addr) (bc:Nat) (bh:List Nat) (B:List Lx.Item) (cb:Option Addr) (cc:Nat) (l:List CR) (p:List OB) (x:CR) (hS:jC ls l p) (hx:gW ls x.cf) (Kd:kn p x.r) {O:List Lx.Item} (hs:Sub ([cR zs (.cells (List.toArray [(.slice bb bh.length bc),(.slice cb l.length cc)]) 122 (0,0)),am cb cc 169 3 (cr l)]++B) O):
  bm Tryz.prog base 114 [ov,.pointer (aD zs),(.agg #[vI x.k,vI ((x.s:Nat):Int),(.slice x.r.b x.r.o.length x.r.c)])] (O++eI 173 p) (fun v O'=> ∃sx sy l',v=.tuple #[]∧O'=([cR zs (.cells (List.toArray [(.slice bb bh.length bc),(.slice sx l'.length sy)]) 122 (0,0)),am sx sy 169 3 (cr l')]++B)++eI 173 p∧l'.map CR.cf=[x.cf].foldl add (l.map CR.cf)∧jC ls l' p):=by
 have h:=WY base hG ov zs (.slice bb bh.length bc) cb cc l p x hS.LO hS.IJ hx Kd (Nat.lt_of_le_of_lt (hS.len hK) vw)
 refine((h.under (B:=B) (oR _ _ _ _ hs))).post ?_
 rintro v O' ⟨A',rfl,sx,sy,rfl,rfl⟩
 exact⟨_,oS _ _ _,sx,sy,wG l x,F,F,D8 l x,hS.add hx Kd⟩
theorem P_ (base:World) [cG Tryz.prog base] (ob:Nat) (lb:Option Addr) (lc:Nat) (cv fv:Value) (ls:List Lf) (ks:List LK) (ho:jv base ob lb lc cv fv ls ks) (vs:Nat) (hG:gN ls vs) {K:Nat} (hK:oC ls K) (vw:K<1099511627776) (zs:Nat) (bb:Option Addr) (bc kv:Nat) (bh:List Nat) (hb:nG ls bh) (k:Nat) (hk:k<ls.length) (r:OB) (uc:eB ls ls.length r.o) (f:Nat) (hE: ∀j∈(lf ls k).fo,oQ base 109 [(cW (aD ob) 0),(.pointer (aD zs)),vI ((j:Nat):Int),(.slice r.b r.o.length r.c)] zs bb bc kv bh ls r (fg ls f bh j r.o)) (cb:Option Addr) (cc:Nat) (l:List CR) (p:List OB) (hS:jC ls l p) (BX:kn p r):
  bm Tryz.prog base 115 [(cW (aD ob) 0),(.pointer (aD zs)),vI ((k:Nat):Int),(.slice r.b r.o.length r.c)] ([oI zs 122 [(.slice bb bh.length bc),(.slice cb l.length cc)],am cb cc 169 3 (cr l),am bb kv 3 1 (aX bh)]++eI 173 p) (fun v O'=> ∃sx sy l' p',v=.tuple #[]∧O'=[oI zs 122 [(.slice bb bh.length bc),(.slice sx l'.length sy)],am sx sy 169 3 (cr l'),am bb kv 3 1 (aX bh)]++eI 173 p'∧l'.map CR.cf=(fG ls (f+1) bh k r.o).foldl add (l.map CR.cf)∧jC ls l' p'∧(∀x∈p,x∈p')):=by
 refine aw func115 F ntmps115 F ?_
 have Gs:=hG.fol _ (iU hk)
 refine aB (ai (ah F (ad (aK F) (ad (br e8 F fe F F (ay ho.bx) (by first|omega|(simp;done)|(simp;omega)|(simp_all;done)|(simp_all;omega))) (ad (cd d_ F F (ay ho.bx) F) (ah F (ad (cY (i:=k) d_ dN F F (ay ho.rw) hk (by rw[cU ho.kl];omega)) (ad (br fX F bV F F (ay ho.rw) (by rw[cU ho.kl];omega)) (ad (cd bK F F (ay ho.rw) (oP ho.kl hk 5 F F)) (ad (bS bK F) (ah F (ae (aG ?_)))))))))))))
 let eQ:Lx.Item:=am bb kv 3 1 (aX bh)
 refine cM (fun(i:Nat) ρ O=> ∃(NB:Option Addr) (NC:Nat) (l2:List CR) (p2:List OB),O=([oI zs 122 [(.slice bb bh.length bc),(.slice NB l2.length NC)],am NB NC 169 3 (cr l2),eQ]++(eI 173 p2))∧i≤(lf ls k).fo.length∧l2.map CR.cf=(((lf ls k).fo.take i).flatMap fun j=>fg ls f bh j r.o).foldl add (l.map CR.cf)∧jC ls l2 p2∧(∀x∈p,x∈p2)∧cw [(0,(cW (aD ob) 0)),(1,(.pointer (aD zs))),(2,vI ((k:Nat):Int)),(3,(.slice r.b r.o.length r.c)),(17,(.slice (lk ks k).b ((lf ls k).fo.length) ((lk ks k).c))),(18,vI ((lf ls k).fo.length:Int)),(19,vI ((i:Nat):Int))] ρ) (fun i=>(lf ls k).fo.length-i) 0 ?_ ?_
 ·exact⟨cb,cc,l,p,F,Nat.zero_le _,F,hS,fun x hx=>hx,(.of F)⟩
 rintro i ρ O ⟨NB,NC,l2,p2,rfl,hi,zz,RX,xe,hH⟩
 obtain⟨fE,rfl⟩:=hH.elim
 clear hH
 refine ai (ad (bT F F) (ae (aB (aC F (fun hc=>?_) (fun hc=>?_)))))
 ·have xA:i<(lf ls k).fo.length:=by omega
  refine av (aB (aG (ai (ad (cV (i:=i) bK aO F F (ay (ho.fo _ hk)) xA (by rw[List.length_map];exact xA)) (ad (cd cS F F (ay (ho.fo _ hk)) (fO xA)) (aj F (ae (aJ (ah F (ah F (ah F (ah F ?_))))))))))))
  have re:=hE (lf ls k).fo[i] (List.getElem_mem xA) NB NC l2 p2 RX (BX.mono xe)
  refine ak F (aP IK re F ?_)
  clear re
  rintro vr O' ⟨LP,LQ,l3,p3,rfl,rfl,LR,Gt,BO⟩
  refine ae (aJ (ad (cx (a:=i) (b:=1) F F (by omega)) (ah F (ae ?_))))
  exact⟨i+1,by omega,_,bn (List.Sublist.refl _),LP,LQ,l3,p3,F,by omega,by rw[List.take_succ_eq_append_getElem xA,List.flatMap_append,List.foldl_append,←zz,LR];simp,Gt,fun x hx=>BO x (xe x hx),(.of F)⟩
 have TP: ¬i<(lf ls k).fo.length:=by omega
 refine bJ ?_
 refine ai (ah F (ad (aK F) (ad (br e8 F fe F F (ay ho.bx) (by first|omega|(simp;done)|(simp;omega)|(simp_all;done)|(simp_all;omega))) (ad (cd d_ F F (ay ho.bx) F) (ah F (ad (cY (i:=k) d_ dN F F (ay ho.rw) hk (by rw[cU ho.kl];omega)) (ad (br fX F dU F F (ay ho.rw) (by rw[cU ho.kl];omega)) (ad (cd zi F F (ay ho.rw) (oP ho.kl hk 6 F F)) (ae (T.cond F (fun hc=>?_) (fun hc=>?_)))))))))))
 ·have Hj:(lf ls k).la=true:=hc
  refine aJ (ah F (ah F (ah F (ad (bG (cs:=[vI (-1),vI 0,(.slice r.b r.o.length r.c)]) yJ gO (by kernel_rfl)) ?_))))
  have Iu:=P9 base hG hK vw (cW (aD ob) 0) zs bb bc bh [eQ] NB NC l2 p2 ⟨-1,0,r⟩ RX (.inl ⟨F,F,uc⟩) (BX.mono xe) (O:=[oI zs 122 [(.slice bb bh.length bc),(.slice NB l2.length NC)],am NB NC 169 3 (cr l2),eQ]) (by exact Sub.rf)
  refine ak F (aP CN Iu F ?_)
  clear Iu
  rintro vr O' ⟨AU,AV,l4,rfl,rfl,Qa,Qb⟩
  refine ae (ap ?_)
  refine pD.zero Tryz.results115 ?_
  have uf:i=(lf ls k).fo.length:=by omega
  subst uf
  rw[List.take_length]at zz
  have e9:fG ls (f+1) bh k r.o=((lf ls k).fo.flatMap fun j=>fg ls f bh j r.o)++[⟨-1,0,r.o⟩]:=by unfold fG;rw[if_pos Hj]
  exact⟨_,bn (List.Sublist.refl _),AU,AV,l4,p2,F,F,by rw[e9,List.foldl_append,←zz,Qa];rfl,Qb,xe⟩
 have Hj: ¬(lf ls k).la=true:=by rw[hc];simp
 refine av (ap ?_)
 refine pD.zero Tryz.results115 ?_
 have uf:i=(lf ls k).fo.length:=by omega
 subst uf
 rw[List.take_length]at zz
 have e9:fG ls (f+1) bh k r.o=((lf ls k).fo.flatMap fun j=>fg ls f bh j r.o)++[]:=by unfold fG;rw[if_neg Hj]
 exact⟨_,bn (List.Sublist.refl _),NB,NC,l2,p2,F,F,by rw[e9,List.append_nil,zz],RX,xe⟩
def D9 (l:Lf) (q:LK):List Value:=[v8 l.op,vI l.d.vars,vI ((l.d.start.toNat:Nat):Int),.slice q.k.nb l.d.next.length q.k.nc,.slice q.k.fb l.d.ax.length q.k.fc,.slice q.b l.fo.length q.c,.bool l.la]
theorem my {ls:List Lf} {ks:List LK} {k:Nat} (hk:ks.length=ls.length) (h:k<ls.length) (h0:0≤(lf ls k).d.start): ∀j (hj:j<(D9 (lf ls k) (lk ks k)).length),(cj ls ks)[k*7+j]? =some (D9 (lf ls k) (lk ks k))[j]:=fun j hj=>by
 have e:D9 (lf ls k) (lk ks k)=jf (lf ls k) (lk ks k):=by unfold D9;rw[Int.toNat_of_nonneg h0];rfl
 simp only[e]at hj⊢
 exact vv hk h j hj
theorem jV {l:List Nat} {i:Nat} (h:i<l.length):(aX l)[i]? =some (vI ((l.getD i 0:Nat):Int)):=by
 rw[fO h,List.getD_eq_getElem?_getD,List.getElem?_eq_getElem h];rfl
theorem Qc (base:World) [cG Tryz.prog base] (ob:Nat) (lb:Option Addr) (lc:Nat) (cv fv:Value) (ls:List Lf) (ks:List LK) (ho:jv base ob lb lc cv fv ls ks) (vs:Nat) (hG:gN ls vs) {K:Nat} (hK:oC ls K) (vw:K<1099511627776) (zs:Nat) (bb:Option Addr) (bc kv:Nat) (bh:List Nat) (hb:nG ls bh) (k:Nat) (hk:k<ls.length) (IL:(lf ls k).op=9) (r:OB) (uc:eB ls k r.o) (f:Nat) (hL: ∀r2:OB,eB ls (k+1) r2.o→oQ base 115 [(cW (aD ob) 0),(.pointer (aD zs)),vI ((k:Nat):Int),(.slice r2.b r2.o.length r2.c)] zs bb bc kv bh ls r2 (fG ls f bh k r2.o)) (cb:Option Addr) (cc:Nat) (l:List CR) (p:List OB) (hS:jC ls l p) (BX:kn p r):
  bm Tryz.prog base 109 [(cW (aD ob) 0),(.pointer (aD zs)),vI ((k:Nat):Int),(.slice r.b r.o.length r.c)] ([oI zs 122 [(.slice bb bh.length bc),(.slice cb l.length cc)],am cb cc 169 3 (cr l),am bb kv 3 1 (aX bh)]++eI 173 p) (fun v O'=> ∃sx sy l' p',v=.tuple #[]∧O'=[oI zs 122 [(.slice bb bh.length bc),(.slice sx l'.length sy)],am sx sy 169 3 (cr l'),am bb kv 3 1 (aX bh)]++eI 173 p'∧l'.map CR.cf=(fg ls (f+1) bh k r.o).foldl add (l.map CR.cf)∧jC ls l' p'∧(∀x∈p,x∈p')):=by
 refine aw func109 F ntmps109 F ?_
 have hv:=hG.iI hk
 have x3:=dl hv.toVal
 have ND:k<bh.length:=by rw[hb.len];exact hk
 have TQ:=hb.lt k hk
 have LU:eB ls (k+1) r.o:=uc.mono (Nat.le_succ k)
 refine ai (ah F (ad (aK F) (ad (br e8 F fe F F (ay ho.bx) (by first|omega|(simp;done)|(simp;omega)|(simp_all;done)|(simp_all;omega))) (ad (cd d_ F F (ay ho.bx) F) (ah F (ad (cY (i:=k) d_ dN F F (ay ho.rw) hk (by rw[cU ho.kl];omega)) (ad (dy (vs:=[v8 ((lf ls k).op),vI (lf ls k).d.vars,vI (((lf ls k).d.start.toNat:Nat):Int),(.slice (lk ks k).k.nb ((lf ls k).d.next.length) ((lk ks k).k.nc)),(.slice (lk ks k).k.fb ((lf ls k).d.ax.length) ((lk ks k).k.fc)),(.slice (lk ks k).b ((lf ls k).fo.length) ((lk ks k).c)),.bool (lf ls k).la]) fX F dN F F (Nat.succ_pos _) (ay ho.rw) (my ho.kl hk hv.s0)) (ak F (aR dN F (fun z1=>?_))))))))))
 refine ak F (a8 (vs:=[v8 ((lf ls k).op),vI (lf ls k).d.vars,vI (((lf ls k).d.start.toNat:Nat):Int),(.slice (lk ks k).k.nb ((lf ls k).d.next.length) ((lk ks k).k.nc)),(.slice (lk ks k).k.fb ((lf ls k).d.ax.length) ((lk ks k).k.fc)),(.slice (lk ks k).b ((lf ls k).fo.length) ((lk ks k).c)),.bool (lf ls k).la]) 0 dN F F F F ?_)
 refine ae (aG (ai (ad (aN fX F cI F F) (ad (aQ 0 eu F F F F) (ad (aq (aZ F F) (decide_eq_true (by omega))) (aj F (ae ?_)))))))
 refine bj F ?_
 refine aJ (ah F (ah F (ah F (ah F (ah F (ah F (ad (aN fX F aY F F) (ad (aN bW F aO F F) (ad (aQ 0 cS F F F F) (ad (qW (cs:=[vI ((k:Nat):Int),vI (((lf ls k).d.start.toNat:Nat):Int)]) iH aO fx (by kernel_rfl)) ?_))))))))))
 have vg:=fun(w1:World) (hI:Inv base ([oI z1 118 [v8 ((lf ls k).op),vI (lf ls k).d.vars,vI (((lf ls k).d.start.toNat:Nat):Int),(.slice (lk ks k).k.nb ((lf ls k).d.next.length) ((lk ks k).k.nc)),(.slice (lk ks k).k.fb ((lf ls k).d.ax.length) ((lk ks k).k.fc)),(.slice (lk ks k).b ((lf ls k).fo.length) ((lk ks k).c)),.bool (lf ls k).la],oI zs 122 [(.slice bb bh.length bc),(.slice cb l.length cc)],am cb cc 169 3 (cr l),am bb kv 3 1 (aX bh)]++(eI 173 p)) w1)=>(haveI:=di hI;TN w1 ob lb lc cv fv ls ks (hI.out ho) vs hG r (kn.sl hI (fun it dZ=>List.mem_append_right _ dZ) BX) (k,(lf ls k).d.start.toNat) k uc (Nat.le_refl _) hk x3)
 refine ak F (aP IM (aI vg) F ?_)
 clear vg
 rintro vr O' ⟨N,rfl,pl,r2,rfl,rfl,Qd,AW⟩
 have hg2:eB ls (k+1) r2.o:=by rw[Qd];exact sA (x:=(k,_)) uc (Nat.le_refl _) x3
 have WZ:kn (pl++p) r2:=by
  rcases AW with⟨rfl,rfl⟩|rfl
  ·exact BX.mono fun x hx=>by simpa using hx
  ·exact .inl (by simp)
 refine cQ (O':=([oI z1 118 [v8 ((lf ls k).op),vI (lf ls k).d.vars,vI (((lf ls k).d.start.toNat:Nat):Int),(.slice (lk ks k).k.nb ((lf ls k).d.next.length) ((lk ks k).k.nc)),(.slice (lk ks k).k.fb ((lf ls k).d.ax.length) ((lk ks k).k.fc)),(.slice (lk ks k).b ((lf ls k).fo.length) ((lk ks k).c)),.bool (lf ls k).la],oI zs 122 [(.slice bb bh.length bc),(.slice cb l.length cc)],am cb cc 169 3 (cr l),am bb kv 3 1 (aX bh)]++((eI 173 pl)++(eI 173 p)))) (by exact eg [] _ (eI 173 pl) (eI 173 p)) ?_
 have TR:=bm.sub (O':=[oI zs 122 [(.slice bb bh.length bc),(.slice cb l.length cc)],am cb cc 169 3 (cr l),am bb kv 3 1 (aX bh)]++eI 173 (pl++p)) (O:=([oI z1 118 [v8 ((lf ls k).op),vI (lf ls k).d.vars,vI (((lf ls k).d.start.toNat:Nat):Int),(.slice (lk ks k).k.nb ((lf ls k).d.next.length) ((lk ks k).k.nc)),(.slice (lk ks k).k.fb ((lf ls k).d.ax.length) ((lk ks k).k.fc)),(.slice (lk ks k).b ((lf ls k).fo.length) ((lk ks k).c)),.bool (lf ls k).la],oI zs 122 [(.slice bb bh.length bc),(.slice cb l.length cc)],am cb cc 169 3 (cr l),am bb kv 3 1 (aX bh)]++((eI 173 pl)++(eI 173 p)))) (by rw[AX];exact(by exact Sub.d (.k (.k (.k .rf))))) (hL r2 hg2 cb cc l (pl++p) (hS.mono fun x hx=>List.mem_append_right _ hx) WZ)
 refine ak F (aP yK TR F ?_)
 clear TR
 rintro vr O' ⟨LP,LQ,l3,p3,rfl,rfl,LR,Gt,BO⟩
 refine ae (ap ?_)
 refine pD.zero Tryz.results109 ?_
 exact⟨_,bn (List.Sublist.refl _),LP,LQ,l3,p3,F,F,by rw[LR,Qd];unfold fg;rw[if_pos IL],Gt,fun x hx=>BO x (List.mem_append_right _ hx)⟩
theorem Qe (base:World) [cG Tryz.prog base] (ob:Nat) (lb:Option Addr) (lc:Nat) (cv fv:Value) (ls:List Lf) (ks:List LK) (ho:jv base ob lb lc cv fv ls ks) (vs:Nat) (hG:gN ls vs) {K:Nat} (hK:oC ls K) (vw:K<1099511627776) (zs:Nat) (bb:Option Addr) (bc kv:Nat) (bh:List Nat) (hb:nG ls bh) (k:Nat) (hk:k<ls.length) (IL:(lf ls k).op=10) (r:OB) (uc:eB ls k r.o) (f:Nat) (hL: ∀r2:OB,eB ls (k+1) r2.o→oQ base 115 [(cW (aD ob) 0),(.pointer (aD zs)),vI ((k:Nat):Int),(.slice r2.b r2.o.length r2.c)] zs bb bc kv bh ls r2 (fG ls f bh k r2.o)) (cb:Option Addr) (cc:Nat) (l:List CR) (p:List OB) (hS:jC ls l p) (BX:kn p r):
  bm Tryz.prog base 109 [(cW (aD ob) 0),(.pointer (aD zs)),vI ((k:Nat):Int),(.slice r.b r.o.length r.c)] ([oI zs 122 [(.slice bb bh.length bc),(.slice cb l.length cc)],am cb cc 169 3 (cr l),am bb kv 3 1 (aX bh)]++eI 173 p) (fun v O'=> ∃sx sy l' p',v=.tuple #[]∧O'=[oI zs 122 [(.slice bb bh.length bc),(.slice sx l'.length sy)],am sx sy 169 3 (cr l'),am bb kv 3 1 (aX bh)]++eI 173 p'∧l'.map CR.cf=(fg ls (f+1) bh k r.o).foldl add (l.map CR.cf)∧jC ls l' p'∧(∀x∈p,x∈p')):=by
 refine aw func109 F ntmps109 F ?_
 have hv:=hG.iI hk
 have x3:=dl hv.toVal
 have ND:k<bh.length:=by rw[hb.len];exact hk
 have TQ:=hb.lt k hk
 have LU:eB ls (k+1) r.o:=uc.mono (Nat.le_succ k)
 refine ai (ah F (ad (aK F) (ad (br e8 F fe F F (ay ho.bx) (by first|omega|(simp;done)|(simp;omega)|(simp_all;done)|(simp_all;omega))) (ad (cd d_ F F (ay ho.bx) F) (ah F (ad (cY (i:=k) d_ dN F F (ay ho.rw) hk (by rw[cU ho.kl];omega)) (ad (dy (vs:=[v8 ((lf ls k).op),vI (lf ls k).d.vars,vI (((lf ls k).d.start.toNat:Nat):Int),(.slice (lk ks k).k.nb ((lf ls k).d.next.length) ((lk ks k).k.nc)),(.slice (lk ks k).k.fb ((lf ls k).d.ax.length) ((lk ks k).k.fc)),(.slice (lk ks k).b ((lf ls k).fo.length) ((lk ks k).c)),.bool (lf ls k).la]) fX F dN F F (Nat.succ_pos _) (ay ho.rw) (my ho.kl hk hv.s0)) (ak F (aR dN F (fun z1=>?_))))))))))
 refine ak F (a8 (vs:=[v8 ((lf ls k).op),vI (lf ls k).d.vars,vI (((lf ls k).d.start.toNat:Nat):Int),(.slice (lk ks k).k.nb ((lf ls k).d.next.length) ((lk ks k).k.nc)),(.slice (lk ks k).k.fb ((lf ls k).d.ax.length) ((lk ks k).k.fc)),(.slice (lk ks k).b ((lf ls k).fo.length) ((lk ks k).c)),.bool (lf ls k).la]) 0 dN F F F F ?_)
 refine ae (aG (ai (ad (aN fX F cI F F) (ad (aQ 0 eu F F F F) (ad (aq (aZ F F) (decide_eq_false (by omega))) (aj F (ae (aL F (aB ?_)))))))))
 refine eD [(0,0),(1,0),(2,0),(3,0),(4,0),(5,0),(6,0),(7,0),(8,0),(9,0),(10,0),(11,0),(12,0),(13,0),(14,0),(15,0),(16,0),(17,0)] ?_
 refine ao F (aN fX F cI F F) (ao F (aQ 0 eu F F F F) (ao F (aq (aZ F F) (decide_eq_true (by omega))) (ao F (az F) ?_)))
 refine aS F F F (aN fX F aY F F) ?_
 refine aS F F F (aN bW F cA F F) ?_
 refine aS F F F (aQ 0 df F F F F) ?_
 refine aS F F F (az F) ?_
 refine aS F F F (aK F) ?_
 refine aS F F F (aN ie F bV F F) ?_
 refine aS F F F (aQ 1 bK F F F F) ?_
 refine aS F F F (az F) ?_
 refine aS F F F (cV (i:=k) bK aO F F (cP (mG 3 F)) ND (by rw[List.length_map];exact ND)) ?_
 refine aS F F F (cd cS F F (cP (mG 3 F)) (jV ND)) ?_
 refine aS F F F (cV (i:=(bh.getD k 0)) df dU F F (ay (ho.dk _ hk).ax) (by rw[hv.fin];exact TQ) (by rw[List.length_map,hv.fin];exact TQ)) ?_
 refine aS F F F (cd zi F F (ay (ho.dk _ hk).ax) (mR hv TQ)) ?_
 refine ao F (bu F F) (ao F (bt F) ?_)
 refine bw ?_
 refine T.cond F (fun hc=>?_) (fun hc=>?_)
 ·have vx:cF (lf ls k).d (bh.getD k 0)=true:=hc
  refine aJ (ah F (ah F (ah F (ah F ?_))))
  have GR:=bm.sub (O':=[oI zs 122 [(.slice bb bh.length bc),(.slice cb l.length cc)],am cb cc 169 3 (cr l),am bb kv 3 1 (aX bh)]++eI 173 p) (O:=([oI z1 118 [v8 ((lf ls k).op),vI (lf ls k).d.vars,vI (((lf ls k).d.start.toNat:Nat):Int),(.slice (lk ks k).k.nb ((lf ls k).d.next.length) ((lk ks k).k.nc)),(.slice (lk ks k).k.fb ((lf ls k).d.ax.length) ((lk ks k).k.fc)),(.slice (lk ks k).b ((lf ls k).fo.length) ((lk ks k).c)),.bool (lf ls k).la],oI zs 122 [(.slice bb bh.length bc),(.slice cb l.length cc)],am cb cc 169 3 (cr l),am bb kv 3 1 (aX bh)]++(eI 173 p))) (by exact(by exact Sub.d (.k (.k (.k .rf))))) (hL r LU cb cc l p hS BX)
  refine ak F (aP yK GR F ?_)
  clear GR
  rintro vr O' ⟨LP,LQ,l3,p3,rfl,rfl,LR,Gt,BO⟩
  refine ae (ap ?_)
  refine pD.zero Tryz.results109 ?_
  exact⟨_,bn (List.Sublist.refl _),LP,LQ,l3,p3,F,F,by rw[LR];unfold fg;rw[if_neg (by omega),if_pos IL,if_pos vx],Gt,BO⟩
 have vx: ¬cF (lf ls k).d (bh.getD k 0)=true:=by rw[hc];simp
 refine ai (ad (aN fX F cI F F) (ad (aQ 0 eu F F F F) (ad (aq (aZ F F) (decide_eq_false (by omega))) (aj F (ae (aL F (av (ap ?_))))))))
 refine pD.zero Tryz.results109 ?_
 exact⟨[oI zs 122 [(.slice bb bh.length bc),(.slice cb l.length cc)],am cb cc 169 3 (cr l),am bb kv 3 1 (aX bh)]++eI 173 p,(by exact Sub.d (.k (.k (.k .rf)))),cb,cc,l,p,F,F,by unfold fg;rw[if_neg (by omega),if_pos IL,if_neg vx];rfl,hS,fun x hx=>hx⟩
theorem LV (base:World) [cG Tryz.prog base] (ob:Nat) (lb:Option Addr) (lc:Nat) (cv fv:Value) (ls:List Lf) (ks:List LK) (ho:jv base ob lb lc cv fv ls ks) (vs:Nat) (hG:gN ls vs) {K:Nat} (hK:oC ls K) (vw:K<1099511627776) (zs:Nat) (bb:Option Addr) (bc kv:Nat) (bh:List Nat) (hb:nG ls bh) (k:Nat) (hk:k<ls.length) (IL:(lf ls k).op=0) (r:OB) (uc:eB ls k r.o) (f:Nat) (hL: ∀r2:OB,eB ls (k+1) r2.o→oQ base 115 [(cW (aD ob) 0),(.pointer (aD zs)),vI ((k:Nat):Int),(.slice r2.b r2.o.length r2.c)] zs bb bc kv bh ls r2 (fG ls f bh k r2.o)) (cb:Option Addr) (cc:Nat) (l:List CR) (p:List OB) (hS:jC ls l p) (BX:kn p r):
  bm Tryz.prog base 109 [(cW (aD ob) 0),(.pointer (aD zs)),vI ((k:Nat):Int),(.slice r.b r.o.length r.c)] ([oI zs 122 [(.slice bb bh.length bc),(.slice cb l.length cc)],am cb cc 169 3 (cr l),am bb kv 3 1 (aX bh)]++eI 173 p) (fun v O'=> ∃sx sy l' p',v=.tuple #[]∧O'=[oI zs 122 [(.slice bb bh.length bc),(.slice sx l'.length sy)],am sx sy 169 3 (cr l'),am bb kv 3 1 (aX bh)]++eI 173 p'∧l'.map CR.cf=(fg ls (f+1) bh k r.o).foldl add (l.map CR.cf)∧jC ls l' p'∧(∀x∈p,x∈p')):=by
 refine aw func109 F ntmps109 F ?_
 have hv:=hG.iI hk
 have x3:=dl hv.toVal
 have ND:k<bh.length:=by rw[hb.len];exact hk
 have TQ:=hb.lt k hk
 have LU:eB ls (k+1) r.o:=uc.mono (Nat.le_succ k)
 refine ai (ah F (ad (aK F) (ad (br e8 F fe F F (ay ho.bx) (by first|omega|(simp;done)|(simp;omega)|(simp_all;done)|(simp_all;omega))) (ad (cd d_ F F (ay ho.bx) F) (ah F (ad (cY (i:=k) d_ dN F F (ay ho.rw) hk (by rw[cU ho.kl];omega)) (ad (dy (vs:=[v8 ((lf ls k).op),vI (lf ls k).d.vars,vI (((lf ls k).d.start.toNat:Nat):Int),(.slice (lk ks k).k.nb ((lf ls k).d.next.length) ((lk ks k).k.nc)),(.slice (lk ks k).k.fb ((lf ls k).d.ax.length) ((lk ks k).k.fc)),(.slice (lk ks k).b ((lf ls k).fo.length) ((lk ks k).c)),.bool (lf ls k).la]) fX F dN F F (Nat.succ_pos _) (ay ho.rw) (my ho.kl hk hv.s0)) (ak F (aR dN F (fun z1=>?_))))))))))
 refine ak F (a8 (vs:=[v8 ((lf ls k).op),vI (lf ls k).d.vars,vI (((lf ls k).d.start.toNat:Nat):Int),(.slice (lk ks k).k.nb ((lf ls k).d.next.length) ((lk ks k).k.nc)),(.slice (lk ks k).k.fb ((lf ls k).d.ax.length) ((lk ks k).k.fc)),(.slice (lk ks k).b ((lf ls k).fo.length) ((lk ks k).c)),.bool (lf ls k).la]) 0 dN F F F F ?_)
 refine ae (aG (ai (ad (aN fX F cI F F) (ad (aQ 0 eu F F F F) (ad (aq (aZ F F) (decide_eq_false (by omega))) (aj F (ae (aL F (aB ?_)))))))))
 refine eD [(0,0),(1,0),(2,0),(3,0),(4,0),(5,0),(6,0),(7,0),(8,0),(9,0),(10,0),(11,0),(12,0),(13,0),(14,0),(15,0),(16,0),(17,0)] ?_
 refine ao F (aN fX F cI F F) (ao F (aQ 0 eu F F F F) (ao F (aq (aZ F F) (decide_eq_false (by omega))) (ao F (az F) (a6 F F F (a6 F F F (a6 F F F (a6 F F F (a6 F F F (a6 F F F (a6 F F F ?_))))))))))
 refine a6 F F F (a6 F F F (a6 F F F (a6 F F F (a6 F F F (ao F (bl F F) (ao F (bt F) ?_))))))
 refine bw ?_
 refine aL F (ai (ad (aN fX F cI F F) (ad (aQ 0 eu F F F F) (ad (aq (aZ F F) (decide_eq_true (by omega))) (aj F (ae ?_))))))
 refine bj F ?_
 refine ai (ah F (ah F (ah F (ad (aN fX F aY F F) (ad (aN bW F aO F F) (ad (aQ 0 cS F F F F) (ah F (ad (bG (cs:=[vI ((k:Nat):Int),vI (((lf ls k).d.start.toNat:Nat):Int),(.slice r.b r.o.length r.c)]) yJ gO (by kernel_rfl)) ?_))))))))
 have Iy:=P9 base hG hK vw (cW (aD ob) 0) zs bb bc bh [oI z1 118 [v8 ((lf ls k).op),vI (lf ls k).d.vars,vI (((lf ls k).d.start.toNat:Nat):Int),(.slice (lk ks k).k.nb ((lf ls k).d.next.length) ((lk ks k).k.nc)),(.slice (lk ks k).k.fb ((lf ls k).d.ax.length) ((lk ks k).k.fc)),(.slice (lk ks k).b ((lf ls k).fo.length) ((lk ks k).c)),.bool (lf ls k).la],am bb kv 3 1 (aX bh)] cb cc l p ⟨(k:Int),(lf ls k).d.start.toNat,r⟩ hS (.inr ⟨k,F,hk,x3,uc⟩) BX (O:=[oI z1 118 [v8 ((lf ls k).op),vI (lf ls k).d.vars,vI (((lf ls k).d.start.toNat:Nat):Int),(.slice (lk ks k).k.nb ((lf ls k).d.next.length) ((lk ks k).k.nc)),(.slice (lk ks k).k.fb ((lf ls k).d.ax.length) ((lk ks k).k.fc)),(.slice (lk ks k).b ((lf ls k).fo.length) ((lk ks k).c)),.bool (lf ls k).la],oI zs 122 [(.slice bb bh.length bc),(.slice cb l.length cc)],am cb cc 169 3 (cr l),am bb kv 3 1 (aX bh)]) (by exact Sub.dr [oI z1 118 [v8 ((lf ls k).op),vI (lf ls k).d.vars,vI (((lf ls k).d.start.toNat:Nat):Int),(.slice (lk ks k).k.nb ((lf ls k).d.next.length) ((lk ks k).k.nc)),(.slice (lk ks k).k.fb ((lf ls k).d.ax.length) ((lk ks k).k.fc)),(.slice (lk ks k).b ((lf ls k).fo.length) ((lk ks k).c)),.bool (lf ls k).la]] _ (.dr [oI z1 118 [v8 ((lf ls k).op),vI (lf ls k).d.vars,vI (((lf ls k).d.start.toNat:Nat):Int),(.slice (lk ks k).k.nb ((lf ls k).d.next.length) ((lk ks k).k.nc)),(.slice (lk ks k).k.fb ((lf ls k).d.ax.length) ((lk ks k).k.fc)),(.slice (lk ks k).b ((lf ls k).fo.length) ((lk ks k).c)),.bool (lf ls k).la]] _ (.k (.k .z))))
 refine ak F (aP CN Iy F ?_)
 clear Iy
 rintro vr O' ⟨AU,AV,l4,rfl,rfl,Qa,Qb⟩
 refine ae (ai (ad (aN fX F aY F F) (ad (aN bW F cA F F) (ad (aQ 2 df F F F F) (ad (aN fX F aY F F) (ad (aN bW F aO F F) (ad (aQ 2 cS F F F F) (ad (cV (i:=((lf ls k).d.start.toNat)) df dU F F (ay (ho.dk _ hk).ax) (by rw[hv.fin];exact x3) (by rw[List.length_map,hv.fin];exact x3)) (ad (cd zi F F (ay (ho.dk _ hk).ax) (mR hv x3)) (ae (T.cond F (fun hc=>?_) (fun hc=>?_))))))))))))
 ·have vx:cF (lf ls k).d (lf ls k).d.start.toNat=true:=hc
  refine aJ (ah F (ah F (ah F (ah F ?_))))
  have TS:=bm.sub (O':=[oI zs 122 [(.slice bb bh.length bc),(.slice AU l4.length AV)],am AU AV 169 3 (cr l4),am bb kv 3 1 (aX bh)]++eI 173 p) (O:=([oI zs 122 [(.slice bb bh.length bc),(.slice AU l4.length AV)],am AU AV 169 3 (cr l4),oI z1 118 [v8 ((lf ls k).op),vI (lf ls k).d.vars,vI (((lf ls k).d.start.toNat:Nat):Int),(.slice (lk ks k).k.nb ((lf ls k).d.next.length) ((lk ks k).k.nc)),(.slice (lk ks k).k.fb ((lf ls k).d.ax.length) ((lk ks k).k.fc)),(.slice (lk ks k).b ((lf ls k).fo.length) ((lk ks k).c)),.bool (lf ls k).la],am bb kv 3 1 (aX bh)]++(eI 173 p))) (by exact(by exact Sub.k (.k (.d (.k .rf))))) (hL r LU AU AV l4 p Qb BX)
  refine ak F (aP yK TS F ?_)
  clear TS
  rintro vr O' ⟨LP,LQ,l3,p3,rfl,rfl,LR,Gt,BO⟩
  refine ae (ap ?_)
  refine pD.zero Tryz.results109 ?_
  exact⟨_,bn (List.Sublist.refl _),LP,LQ,l3,p3,F,F,by rw[LR,Qa];unfold fg;rw[if_neg (by omega),if_neg (by omega),if_pos vx];rfl,Gt,BO⟩
 have vx: ¬cF (lf ls k).d (lf ls k).d.start.toNat=true:=by rw[hc];simp
 refine av (ap ?_)
 refine pD.zero Tryz.results109 ?_
 exact⟨[oI zs 122 [(.slice bb bh.length bc),(.slice AU l4.length AV)],am AU AV 169 3 (cr l4),am bb kv 3 1 (aX bh)]++eI 173 p,(by exact Sub.k (.k (.d (.k .rf)))),AU,AV,l4,p,F,F,by rw[Qa];unfold fg;rw[if_neg (by omega),if_neg (by omega),if_neg vx];rfl,Qb,fun x hx=>hx⟩
theorem CO (base:World) [cG Tryz.prog base] (ob:Nat) (lb:Option Addr) (lc:Nat) (cv fv:Value) (ls:List Lf) (ks:List LK) (ho:jv base ob lb lc cv fv ls ks) (vs:Nat) (hG:gN ls vs) {K:Nat} (hK:oC ls K) (vw:K<1099511627776) (zs:Nat) (bb:Option Addr) (bc kv:Nat) (bh:List Nat) (hb:nG ls bh): ∀f:Nat,
  (∀(k:Nat) (r:OB),k<ls.length→2*(ls.length-k)≤f→eB ls k r.o→oQ base 109 [(cW (aD ob) 0),(.pointer (aD zs)),vI ((k:Nat):Int),(.slice r.b r.o.length r.c)] zs bb bc kv bh ls r (fg ls f bh k r.o))∧
  (∀(k:Nat) (r:OB),k<ls.length→2*(ls.length-k)≤f+1→eB ls (k+1) r.o→oQ base 115 [(cW (aD ob) 0),(.pointer (aD zs)),vI ((k:Nat):Int),(.slice r.b r.o.length r.c)] zs bb bc kv bh ls r (fG ls f bh k r.o))
 |0=>⟨fun k r hk hf=>absurd hf (by omega),fun k r hk hf=>absurd hf (by omega)⟩
 |f+1=>by
  obtain⟨h1,h2⟩:=CO base ob lb lc cv fv ls ks ho vs hG hK vw zs bb bc kv bh hb f
  refine⟨fun k r hk hf uc=>?_,fun k r hk hf uc=>?_⟩
  ·have hL: ∀r2:OB,eB ls (k+1) r2.o→oQ base 115 [(cW (aD ob) 0),(.pointer (aD zs)),vI ((k:Nat):Int),(.slice r2.b r2.o.length r2.c)] zs bb bc kv bh ls r2 (fG ls f bh k r2.o):=fun r2 Qd=>h2 k r2 hk (by omega) Qd
   intro cb cc l p hS BX
   rcases hG.op _ (iU hk)with h|h|h
   ·exact LV base ob lb lc cv fv ls ks ho vs hG hK vw zs bb bc kv bh hb k hk h r uc f hL cb cc l p hS BX
   ·exact Qc base ob lb lc cv fv ls ks ho vs hG hK vw zs bb bc kv bh hb k hk h r uc f hL cb cc l p hS BX
   ·exact Qe base ob lb lc cv fv ls ks ho vs hG hK vw zs bb bc kv bh hb k hk h r uc f hL cb cc l p hS BX
  ·intro cb cc l p hS BX
   exact P_ base ob lb lc cv fv ls ks ho vs hG hK vw zs bb bc kv bh hb k hk r (uc.mono hk) f (fun j hj=>h1 j r (hG.fo k hk j hj).2 (by have:=hG.fo k hk j hj;omega) (uc.mono (hG.fo k hk j hj).1)) cb cc l p hS BX
end Go.Proofs.YtgdbfideeeegmaaGreatDoor

namespace Go.Proofs.YtgdbfideeeegmaaGreatDoor
open Go.Lx Go.RowKit _root_.Go.Proofs.Tryz
theorem oQ.frame {base:World} {f:FuncId} {args:List Value} {zs:Nat} {bb:Option Addr} {bc kv:Nat} {bh:List Nat} {ls:List Lf} {r:OB} {E:List Cf} (h:oQ base f args zs bb bc kv bh ls r E) (B:List Lx.Item) {O:List Lx.Item} (cb:Option Addr) (cc:Nat) (l:List CR) (p:List OB) (hS:jC ls l p) (hp:kn p r) (hs:Sub ([cR zs (.cells (List.toArray [(.slice bb bh.length bc),(.slice cb l.length cc)]) 122 (0,0)),am cb cc 169 3 (cr l),am bb kv 3 1 (aX bh)]++B) O):
  bm Tryz.prog base f args (O++eI 173 p) (fun v O'=> ∃sx sy l' p',v=.tuple #[]∧O'=([cR zs (.cells (List.toArray [(.slice bb bh.length bc),(.slice sx l'.length sy)]) 122 (0,0)),am sx sy 169 3 (cr l'),am bb kv 3 1 (aX bh)]++B)++eI 173 p'∧l'.map CR.cf=E.foldl add (l.map CR.cf)∧jC ls l' p'∧(∀x∈p,x∈p')):=by
 refine((h cb cc l p hS hp).under (B:=B) (oR _ _ _ _ hs)).post ?_
 rintro v O' ⟨A',rfl,sx,sy,l',p',rfl,rfl,h1,h2,h3⟩
 exact⟨_,oS _ _ _,sx,sy,l',p',F,F,h1,h2,h3⟩
def ry (nb:List Nat) (k:Nat):List Nat:=nb.take k++List.replicate (nb.length-k) 0
theorem pq {nb:List Nat} {k:Nat} (h:k≤nb.length):(ry nb k).length=nb.length:=by unfold ry;rw[List.length_append,List.length_take,List.length_replicate];omega
theorem AY (nb:List Nat):ry nb 0=List.replicate nb.length 0:=by simp[ry]
theorem D_ (nb:List Nat):ry nb nb.length=nb:=by simp[ry]
theorem yL {nb:List Nat} {k:Nat} (h:k<nb.length):(ry nb k).set k nb[k]=ry nb (k+1):=by
 unfold ry
 rw[List.take_succ_eq_append_getElem h,show nb.length-k=(nb.length-(k+1))+1 by omega,List.replicate_succ,List.set_append_right _ _ (by simp;omega),List.append_assoc]
 simp[Nat.min_eq_left (Nat.le_of_lt h)]
theorem IN {nb:List Nat} {k:Nat} (h:k<nb.length) (h0:nb[k]=0):ry nb (k+1)=ry nb k:=by
 rw[←yL h,h0]
 unfold ry
 rw[show nb.length-k=(nb.length-(k+1))+1 by omega,List.replicate_succ,List.set_append_right _ _ (by simp;omega)]
 simp[Nat.min_eq_left (Nat.le_of_lt h)]
theorem LW (w:World) [cG Tryz.prog w] (ob:Nat) (lb:Option Addr) (lc:Nat) (cv fv:Value) (ls:List Lf) (ks:List LK) (ho:jv w ob lb lc cv fv ls ks) (vs:Nat) (hG:gN ls vs) {K:Nat} (hK:oC ls K) (vw:K<1099511627776) (first:List Nat) (fb:Option Addr) (fc:Nat) (hfv:fv=.slice fb first.length fc) (kY:Sl w fb (aX first)) (hf: ∀k∈first,k<ls.length) (pP:first.length≤1000000):
  bI Tryz.prog 75 [(cW (aD ob) 0)] w fun v N=> ∃bb bc kv cb cc l p,v=.agg #[.slice bb (ls.map fun l=>l.d.start.toNat).length bc,.slice cb l.length cc]∧N=[am bb kv 3 1 (aX (ls.map fun l=>l.d.start.toNat)),am cb cc 169 3 (cr l)]++eI 173 p∧l.map CR.cf=(first.flatMap fun k=>fg ls (2*ls.length) (ls.map fun l=>l.d.start.toNat) k []).foldl add []∧jC ls l p:=by
 refine aw func75 F ntmps75 F ?_
 have gv:=hG.len
 obtain⟨nb,Ab⟩: ∃l:List Nat,l=(ls.map fun l=>l.d.start.toNat):=⟨_,F⟩
 have Ka:nb.length=ls.length:=by rw[Ab];simp
 refine ai (ak F (aR eZ F (fun z1=>?_)))
 refine ae (ai (ah F (ad (aK F) (ad (br e8 F fe F F (ay ho.bx) (by first|omega|(simp;done)|(simp;omega)|(simp_all;done)|(simp_all;omega))) (ad (cd d_ F F (ay ho.bx) F) (ad (bS d_ F) (ak F (bX (m:=ls.length) bK aO F F (by omega) (by omega) (fun z2=>?_)))))))))
 refine ad (bG (cs:=[(.slice (aD z2) ls.length ls.length),nS]) Ea eZ (by kernel_rfl)) (ak F (aR eZ F (fun z3=>?_)))
 refine ak F (a8 (vs:=[(.slice (aD z2) ls.length ls.length),nS]) 0 eZ F F F F ?_)
 refine ae (aB (ai (ah F (ad (aK F) (ad (br e8 F fe F F (ay ho.bx) (by first|omega|(simp;done)|(simp;omega)|(simp_all;done)|(simp_all;omega))) (ad (cd d_ F F (ay ho.bx) F) (ad (bS d_ F) (ah F (ae (aG ?_))))))))))
 refine cM (fun(k:Nat) ρ O=>O=[oI z3 122 [(.slice (aD z2) ls.length ls.length),nS],am (aD z2) ls.length 3 1 (aX (ry nb k)),oI z1 122 [nS,nS]]∧k≤ls.length∧cw [(0,(cW (aD ob) 0)),(2,(.pointer (aD z1))),(3,(.pointer (aD z3))),(18,(.slice lb ls.length lc)),(19,vI (ls.length:Int)),(20,vI ((k:Nat):Int))] ρ) (fun k=>ls.length-k) 0 ?_ ?_
 ·exact⟨by rw[AY,Ka,show aX (List.replicate ls.length 0)=List.replicate ls.length (vI 0) by simp];rfl,Nat.zero_le _,(.of F)⟩
 rintro k ρ O ⟨rfl,hk,hH⟩
 obtain⟨fE,rfl⟩:=hH.elim
 clear hH
 refine ai (ad (bT F F) (ae (aB (aC F (fun hc=>?_) (fun hc=>?_)))))
 ·have sV:k<ls.length:=by omega
  refine av (aB (aG (ai (ah F (ad (cY (i:=k) d_ dN F F (ay ho.rw) sV (by rw[cU ho.kl];omega)) (ad (dy (vs:=[v8 ((lf ls k).op),vI (lf ls k).d.vars,vI (((lf ls k).d.start.toNat:Nat):Int),(.slice (lk ks k).k.nb ((lf ls k).d.next.length) ((lk ks k).k.nc)),(.slice (lk ks k).k.fb ((lf ls k).d.ax.length) ((lk ks k).k.fc)),(.slice (lk ks k).b ((lf ls k).fo.length) ((lk ks k).c)),.bool (lf ls k).la]) fX F dN F F (Nat.succ_pos _) (ay ho.rw) (my ho.kl sV (hG.iI sV).s0)) (ak F (aR dN F (fun z4=>?_)))))))))
  refine aj F (ak F (a8 (vs:=[v8 ((lf ls k).op),vI (lf ls k).d.vars,vI (((lf ls k).d.start.toNat:Nat):Int),(.slice (lk ks k).k.nb ((lf ls k).d.next.length) ((lk ks k).k.nc)),(.slice (lk ks k).k.fb ((lf ls k).d.ax.length) ((lk ks k).k.fc)),(.slice (lk ks k).b ((lf ls k).fo.length) ((lk ks k).c)),.bool (lf ls k).la]) 0 dN F F F F ?_))
  refine ae (aJ (ad (aN ie F bV F F) (ad (aQ 1 bK F F F F) (ah F (ad (aN fX F aY F F) (ad (aN bW F aO F F) (ad (aQ 0 cS F F F F) (ad (cV (i:=k) bK aO F F (cP (mG 2 F)) (by first|omega|(rw[pq (by omega)];omega)) (by first|omega|(rw[List.length_map,pq (by omega)];omega))) (ak F (lB (j:=k) (v:=vI (((lf ls k).d.start.toNat:Nat):Int)) (vs:=[(vI (((lf ls k).d.start.toNat:Nat):Int))]) (cs:=aX (ry nb k)) 2 aO F F F F F (by simp) F (by rw[List.length_map,pq (by omega)];simp;omega) ?_))))))))))
  refine cQ (O':=[oI z4 118 [v8 ((lf ls k).op),vI (lf ls k).d.vars,vI (((lf ls k).d.start.toNat:Nat):Int),(.slice (lk ks k).k.nb ((lf ls k).d.next.length) ((lk ks k).k.nc)),(.slice (lk ks k).k.fb ((lf ls k).d.ax.length) ((lk ks k).k.fc)),(.slice (lk ks k).b ((lf ls k).fo.length) ((lk ks k).c)),.bool (lf ls k).la],oI z3 122 [(.slice (aD z2) ls.length ls.length),nS],am (aD z2) ls.length 3 1 (aX (ry nb (k+1))),oI z1 122 [nS,nS]]) (by rw[show dK (aX (ry nb k)) k [(vI (((lf ls k).d.start.toNat:Nat):Int))]=aX (ry nb (k+1))from(by rw[←yL (by omega),show nb[k]=(lf ls k).d.start.toNat by simp only[Ab,List.getElem_map,vy sV]];simp[dK])];exact bn (List.Sublist.refl _)) ?_
  refine ae (aJ (ad (cx (a:=k) (b:=1) F F (by omega)) (ah F (ae ?_))))
  exact⟨k+1,by omega,[oI z3 122 [(.slice (aD z2) ls.length ls.length),nS],am (aD z2) ls.length 3 1 (aX (ry nb (k+1))),oI z1 122 [nS,nS]],(by exact Sub.d (.k (.k (.k .z)))),F,by omega,(.of F)⟩
 have uB: ¬k<ls.length:=by omega
 refine bJ ?_
 refine aB (ai (ah F (ad (aK F) (ad (br e8 F bV F F (ay ho.bx) (by first|omega|(simp;done)|(simp;omega)|(simp_all;done)|(simp_all;omega))) (ad (cd bK F F (ay ho.bx) (by rw[hfv];rfl)) (ad (bS bK F) (ah F (ae (aG ?_)))))))))
 have Sv:k=ls.length:=by omega
 subst Sv
 refine T.dJ 169 3 ?_
 refine ck (O':=[oI z3 122 [(.slice (aD z2) nb.length ls.length),(.slice none (([]:List CR).length) 0)],am none 0 169 3 (cr ([]:List CR)),am (aD z2) ls.length 3 1 (aX nb),oI z1 122 [nS,nS]]++eI 173 []) (by
  rw[show ry nb ls.length=nb by rw[←Ka,D_],Ka]
  exact(ar [1,0,0,0] F)) ?_
 refine cM (fun(i:Nat) ρ O=> ∃(cb:Option Addr) (cc:Nat) (l:List CR) (p:List OB),O=([oI z3 122 [(.slice (aD z2) nb.length ls.length),(.slice cb l.length cc)],am cb cc 169 3 (cr l),am (aD z2) ls.length 3 1 (aX nb),oI z1 122 [nS,nS]]++(eI 173 p))∧i≤first.length∧l.map CR.cf=((first.take i).flatMap fun k=>fg ls (2*ls.length) nb k []).foldl add []∧jC ls l p∧cw [(0,(cW (aD ob) 0)),(2,(.pointer (aD z1))),(3,(.pointer (aD z3))),(36,(.slice fb first.length fc)),(37,vI (first.length:Int)),(38,vI ((i:Nat):Int))] ρ) (fun i=>first.length-i) 0 ?_ ?_
 ·exact⟨none,0,[],[],F,Nat.zero_le _,F,⟨by simp,List.nodup_nil,by simp⟩,(.of F)⟩
 rintro i ρ O ⟨cb,cc,l,p,rfl,hi,hm,hS,hH⟩
 obtain⟨fE,rfl⟩:=hH.elim
 clear hH
 refine ai (ad (bT F F) (ae (aB (aC F (fun hc=>?_) (fun hc=>?_)))))
 ·have xB:i<first.length:=by omega
  refine av (aB (aG (ai (ad (cV (i:=i) bK aO F F (ay kY) xB (by rw[List.length_map];exact xB)) (ad (cd cS F F (ay kY) (fO xB)) (aj F (ae (aJ (ah F (ah F ?_))))))))))
  have Ap:=(oQ.frame ((CO w ob lb lc cv fv ls ks ho vs hG hK vw z3 (aD z2) ls.length ls.length nb (by rw[Ab];exact oT hG) (2*ls.length)).1 first[i] ⟨none,0,[]⟩ (hf _ (List.getElem_mem xB)) (by omega) .nil) [oI z1 122 [nS,nS]] (O:=[oI z3 122 [(.slice (aD z2) nb.length ls.length),(.slice cb l.length cc)],am cb cc 169 3 (cr l),am (aD z2) ls.length 3 1 (aX nb),oI z1 122 [nS,nS]]) cb cc l p hS (.inr F) (by exact Sub.rf))
  refine ak F (aP IK Ap F ?_)
  clear Ap
  rintro vr O' ⟨LP,LQ,l3,p3,rfl,rfl,LR,Gt,BO⟩
  refine ae (aJ (ad (cx (a:=i) (b:=1) F F (by omega)) (ah F (ae ?_))))
  exact⟨i+1,by omega,_,bn (List.Sublist.refl _),LP,LQ,l3,p3,F,by omega,by rw[List.take_succ_eq_append_getElem xB,List.flatMap_append,List.foldl_append,←hm,LR];simp,Gt,(.of F)⟩
 have TT: ¬i<first.length:=by omega
 refine bJ ?_
 refine ai (ad (dh 0 ie F eZ F F F) (ak F (a8 (vs:=[(.slice (aD z2) nb.length ls.length),(.slice cb l.length cc)]) 3 eZ F F F F ?_)))
 refine ae (aA (ap ?_))
 refine bL (i:=3) Tryz.results75 ie F eZ F F F ?_
 have uf:i=first.length:=by omega
 subst uf
 rw[List.take_length]at hm
 exact⟨[am (aD z2) ls.length 3 1 (aX nb),am cb cc 169 3 (cr l)]++eI 173 p,(by exact Sub.d (.dr [am cb cc 169 3 (cr l)] _ (.k (.d .rf)))),(aD z2),ls.length,ls.length,cb,cc,l,p,by rw[←Ab];rfl,by rw[←Ab],by rw[hm,←Ab],hS⟩
end Go.Proofs.YtgdbfideeeegmaaGreatDoor


/- Contracts of functions of the program, and what they answer. Conditions: those each theorem names. -/
import Derived.Test.YtgdbfideeeegmaaGreatDoorA2
import Derived.Test.YtgdbfideeeegmaaGreatDoorA5
import Derived.Test.YtgdbfideeeegmaaGreatDoorA7
import Derived.Test.YtgdbfideeeegmaaGreatDoorA8
import Derived.Laws.StructEq
import Derived.Shelf.Small.Bits
import Derived.Test.YtgdbfideeeegmaaGreatDoorA0
set_option linter.unusedSectionVars false
set_option linter.unusedSimpArgs false
set_option linter.unusedVariables false
set_option linter.unnecessarySimpa false
set_option maxHeartbeats 8000000
set_option maxRecDepth 20000
namespace Go.Proofs.YtgdbfideeeegmaaGreatDoor
open Go.Lx Go.RowKit _root_.Go.Proofs.Tryz
theorem CO {b:Bool} {i:Int} (h:(b=false∧i= -1)∨ ∃k:Nat,i=(k:Int)∧b=true):decide (i≥0)=b:=by
 rcases h with⟨rfl,rfl⟩|⟨k,rfl,rfl⟩
 ·decide
 ·exact ay (by omega)
theorem CP (base:World) [dE Tryz.prog base] (b:Option Addr) (c:Nat) (xs:List CR) (hS:Sl base b (dt xs)) (hb:xs.length<4611686018427387904) (fv:Value) (p:CR→Bool) (hy: ∀x∈xs,eK Tryz.prog base fv [(.agg #[vI x.k,vN x.s,(.slice x.r.b x.r.o.length x.r.c)])] [] (fun v O'=>v=.bool (p x)∧O'=[])):
  bW Tryz.prog base 167 [.slice b xs.length c,fv] [] (fun v O'=> ∃i:Int,v=vI i∧((xs.any p=false∧i= -1)∨ ∃k:Nat,i=(k:Int)∧xs.any p=true)∧O'=[]):=by
 refine aF func167 F ntmps167 F ?_
 refine ai (aj F (ae (aM (ai (ah F (ad (cQ nP F) (ah F (ae (aU ?_)))))))))
 refine eF (fun(k:Nat) ρ O=>O=[]∧k≤xs.length∧(xs.take k).any p=false∧dv [(0,(.slice b xs.length c)),(1,fv),(7,vI (xs.length:Int)),(8,vI (k:Int))] ρ) (fun k=>xs.length-k) 0 ?_ ?_
 ·exact⟨F,bn _,F,⟨F,F,F,F,trivial⟩⟩
 rintro k ρ O ⟨rfl,hk,mJ,hH⟩
 obtain⟨gF,rfl⟩:=hH.elim
 clear hH
 refine ai (ad (cT F F) (ae (aM (aP F (fun hc=>?_) (fun hc=>?_)))))
 ·have ku:k<xs.length:=by omega
  refine aE (aM (aU (ai (ah F (aj F (ae (ai (ah F (ah F (ah F (ad (dT (i:=k) nP jq F F (aL hS) ku (by rw[pw];omega)) (ad (eO (vs:=[vI xs[k].k,vN (xs[k].s),(.slice xs[k].r.b xs[k].r.o.length xs[k].r.c)]) lH F jq F F (br _) (aL hS) (su ku)) ?_))))))))))))
  have qA:=hy xs[k] (aQ ku)
  refine ao F (eN qA F F ?_)
  clear qA
  rintro vr O' ⟨rfl,rfl⟩
  refine ae (T.cond F (fun hc=>?_) (fun hc=>?_))
  ·refine aM ?_
   refine a7 (ah F (aj F (ae (aK (aA ?_)))))
   refine aS (vI (k:Int)) Tryz.results167 F ?_
   exact⟨[],Sub.z,k,F,.inr ⟨k,F,FW ku hc⟩,F⟩
  refine aE (a7 (ad (dy (a:=k) (b:=1) F F (by omega)) (ah F (ae ?_))))
  exact⟨k+1,by omega,F,by omega,uv ku mJ hc,⟨F,F,F,F,trivial⟩⟩
 have Kf: ¬k<xs.length:=by omega
 refine cK ?_
 refine ai (aj F (ae (aK (aA ?_))))
 refine aS (vI (-1)) Tryz.results167 F ?_
 exact⟨[],Sub.z, -1,F,.inl ⟨by rw[bw (by omega)]at mJ;exact mJ,F⟩,F⟩
theorem qG (base:World) [dE Tryz.prog base] (b:Option Addr) (c:Nat) (xs:List CR) (hS:Sl base b (dt xs)) (hb:xs.length<4611686018427387904) (fv:Value) (p:CR→Bool) (hy: ∀x∈xs,eK Tryz.prog base fv [(.agg #[vI x.k,vN x.s,(.slice x.r.b x.r.o.length x.r.c)])] [] (fun v O'=>v=.bool (p x)∧O'=[])):
  bW Tryz.prog base 116 [.slice b xs.length c,fv] [] (fun v O'=>v=.bool (xs.any p)∧O'=[]):=by
 refine aF func116 F ntmps116 F ?_
 refine ai (aj F (ae (ai (ah F (ah F ?_)))))
 have Cv:=CP base b c xs hS hb fv p hy
 refine ao F (bl SP Cv F ?_)
 clear Cv
 rintro v O' ⟨i,rfl,hi,rfl⟩
 refine ad (lB F F) (aj F (ae (aK (aA ?_))))
 refine aS (.bool (decide (i≥0))) Tryz.results116 F ?_
 exact⟨[],Sub.z,ax Value.bool (CO hi),F⟩
theorem AV (base:World) [dE Tryz.prog base] (b:Option Addr) (c:Nat) (xs:List dK) (hS:Sl base b (bt xs)) (hb:xs.length<4611686018427387904) (fv:Value) (p:dK→Bool) (hy: ∀x∈xs,eK Tryz.prog base fv [x.ag] [] (fun v O'=>v=.bool (p x)∧O'=[])):
  bW Tryz.prog base 100 [.slice b xs.length c,fv] [] (fun v O'=> ∃i:Int,v=vI i∧((xs.any p=false∧i= -1)∨ ∃k:Nat,i=(k:Int)∧xs.any p=true)∧O'=[]):=by
 refine aF func100 F ntmps100 F ?_
 refine ai (aj F (ae (aM (ai (ah F (ad (cQ cX F) (ah F (ae (aU ?_)))))))))
 refine eF (fun(k:Nat) ρ O=>O=[]∧k≤xs.length∧(xs.take k).any p=false∧dv [(0,(.slice b xs.length c)),(1,fv),(7,vI (xs.length:Int)),(8,vI (k:Int))] ρ) (fun k=>xs.length-k) 0 ?_ ?_
 ·exact⟨F,bn _,F,⟨F,F,F,F,trivial⟩⟩
 rintro k ρ O ⟨rfl,hk,mJ,hH⟩
 obtain⟨gF,rfl⟩:=hH.elim
 clear hH
 refine ai (ad (cT F F) (ae (aM (aP F (fun hc=>?_) (fun hc=>?_)))))
 ·have ku:k<xs.length:=by omega
  refine aE (aM (aU (ai (ah F (aj F (ae (ai (ah F (ah F (ah F (ad (dT (i:=k) cX cm F F (aL hS) ku (by rw[bY];omega)) (ad (eO (vs:=xs[k].cl) bU F cm F F (br _) (aL hS) (lK ku)) ?_))))))))))))
  have qA:=hy xs[k] (aQ ku)
  refine ao F (eN qA F F ?_)
  clear qA
  rintro vr O' ⟨rfl,rfl⟩
  refine ae (T.cond F (fun hc=>?_) (fun hc=>?_))
  ·refine aM ?_
   refine a7 (ah F (aj F (ae (aK (aA ?_)))))
   refine aS (vI (k:Int)) Tryz.results100 F ?_
   exact⟨[],Sub.z,k,F,.inr ⟨k,F,FW ku hc⟩,F⟩
  refine aE (a7 (ad (dy (a:=k) (b:=1) F F (by omega)) (ah F (ae ?_))))
  exact⟨k+1,by omega,F,by omega,uv ku mJ hc,⟨F,F,F,F,trivial⟩⟩
 have Kf: ¬k<xs.length:=by omega
 refine cK ?_
 refine ai (aj F (ae (aK (aA ?_))))
 refine aS (vI (-1)) Tryz.results100 F ?_
 exact⟨[],Sub.z, -1,F,.inl ⟨by rw[bw (by omega)]at mJ;exact mJ,F⟩,F⟩
theorem pM (base:World) [dE Tryz.prog base] (b:Option Addr) (c:Nat) (xs:List dK) (hS:Sl base b (bt xs)) (hb:xs.length<4611686018427387904) (fv:Value) (p:dK→Bool) (hy: ∀x∈xs,eK Tryz.prog base fv [x.ag] [] (fun v O'=>v=.bool (p x)∧O'=[])):
  bW Tryz.prog base 70 [.slice b xs.length c,fv] [] (fun v O'=>v=.bool (xs.any p)∧O'=[]):=by
 refine aF func70 F ntmps70 F ?_
 refine ai (aj F (ae (ai (ah F (ah F ?_)))))
 have Cv:=AV base b c xs hS hb fv p hy
 refine ao F (bl SQ Cv F ?_)
 clear Cv
 rintro v O' ⟨i,rfl,hi,rfl⟩
 refine ad (lB F F) (aj F (ae (aK (aA ?_))))
 refine aS (.bool (decide (i≥0))) Tryz.results70 F ?_
 exact⟨[],Sub.z,ax Value.bool (CO hi),F⟩
theorem WI (base:World) [dE Tryz.prog base] (b lb:Option Addr) (c m lc lv:Nat) (xs:List UInt8) (l:List Int) (hx:xs.length=m) (hn: ∀n∈l,mH n) (hm:m+13*l.length≤800000):
  bW Tryz.prog base 112 [.slice b m c,.slice lb l.length lv] [aq b c 5 1 (di xs),aq lb lc 3 1 (ints l)] (fun v O'=> ∃b' c',v=.slice b' (m+(iO l).length) c'∧O'=[aq b' c' 5 1 (di (xs++iO l)),aq lb lc 3 1 (ints l)]):=by
 refine aF func112 F ntmps112 F ?_
 refine ai (aj F (ae (aM (ai (ah F (ad (cQ cL F) (ah F (ae (aU ?_)))))))))
 refine dO (fun(i:Nat) ρ O=> ∃(jb:Option Addr) (jc:Nat),O=[aq jb jc 5 1 (di (xs++iO (l.take i))),aq lb lc 3 1 (ints l)]∧i≤l.length∧dv [(0,(.slice jb (m+(iO (l.take i)).length) jc)),(1,(.slice lb l.length lv)),(4,nS),(7,(.slice lb l.length lv)),(8,vI (l.length:Int)),(9,vN i)] ρ) (fun i=>l.length-i) 0 ?_ ?_
 ·exact⟨b,c,by simp[iO],bn _,⟨(by show Value.slice b m c=_;simp[iO]),F,F,F,F,F,trivial⟩⟩
 rintro i ρ O ⟨jb,jc,rfl,hi,hH⟩
 obtain⟨gF,rfl⟩:=hH.elim
 clear hH
 have Oc:=pu (l:=l.take i) fun n h=>hn n (List.mem_of_mem_take h)
 have gn:=List.length_take_le i l
 refine ai (ad (cT F F) (ae (aM (aP F (fun hc=>?_) (fun hc=>?_)))))
 ·have lG:i<l.length:=by omega
  have hdl:=qz (hn _ (aQ lG))
  refine aE (aM (aU (ai (ad (dU (i:=i) cL bj F F (dR (mG 1 F)) lG (by rw[ar];exact lG)) (ad (de dP F F (dR (mG 1 F)) (gL lG)) (aj F (ae (a7 (ah F (ah F (ao F (bl AL (na [0] (Wa base jb jc (m+(iO (l.take i)).length) (xs++iO (l.take i)) l[i] (by simp[hx]) (hn _ (aQ lG)) (by omega))) F ?_))))))))))))
  rintro vr O' ⟨A1,rfl,b2,c2,rfl,rfl⟩
  refine ao F (cN (v:=.int .u8 32) lh du F F F (fun nY=>?_))
  refine ao F (cW 1 lh lh du F F F F (by simp[hx,Nat.add_assoc]) (by decide) (Src.row (j:=0) F (by simp)) (by simp[fa]) (by have:=qz (hn _ (aQ lG));omega) (by decide) (by decide) (fun xq c3=>?_))
  refine aj F (ae (a7 (ad (dy (a:=i) (b:=1) F F (by omega)) (ah F (ae ?_)))))
  have e9:=Cu lG
  exact⟨i+1,by omega,[aq xq c3 5 1 ((di (xs++iO (l.take i)++kq l[i]))++[.int .u8 32]),aq lb lc 3 1 (ints l)],(by exact Sub.d (.k (.k .z))),xq,c3,by rw[e9,←aI,←aI,show di (xs++iO (l.take i)++kq l[i]++[32])=di (xs++iO (l.take i)++kq l[i])++[Value.int .u8 32]from bm],by omega,⟨(ax (fun n9=>Value.slice xq n9 c3) (show m+(iO (l.take i)).length+(kq l[i]).length+1=m+(iO (l.take (i+1))).length by rw[e9];simp only[aw,bo,bV,Nat.add_assoc])),F,F,F,F,F,trivial⟩⟩
 have vg: ¬i<l.length:=by omega
 refine cK ?_
 refine ai (ah F (aj F (ae (aK ?_))))
 refine aS (.slice jb (m+(iO (l.take i)).length) jc) Tryz.results112 F ?_
 have we:i=l.length:=by omega
 subst we
 rw[List.take_length]
 exact⟨jb,jc,F,F⟩
theorem EG (w:World) [dE Tryz.prog w] (k:Int) (s:Nat) (r:OB) (hr:Sl w r.b (fE r.o)) (hn: ∀n∈k::(s:Int)::sv r.o,mH n) (hl:r.o.length≤64):
  cH Tryz.prog 110 [.agg #[vI k,vN s,.slice r.b r.o.length r.c]] w fun v N=>v=str (iO (k::(s:Int)::sv r.o))∧N=[]:=by
 refine aF func110 F ntmps110 F ?_
 refine ai (ao F (dG (cs:=[vI k,vN s,(.slice r.b r.o.length r.c)]) F F (fun z1=>?_)))
 refine aj F (ae (ai (ad (a_ lH F bj F F) (ad (bi 0 dP F F F F) (ad (a_ lH F bj F F) (ad (bi 0 dP F F F F) (ao F (cz (m:=2) (parts:=[(0,.tmp 7),(1,.tmp 9)]) (cs:=[vI k,vN s]) cL bj (by decide) (by kernel_rfl) F (fun z2=>?_)))))))))
 refine ao F (bl ux (aX fun w1 hI=>(haveI:=et hI;F2 w1 (aD z2) 2 [k,(s:Int)] (hI.ii (mG 0 F)) (fun n h9=>hn n (by simp only[dh,List.not_mem_nil,or_false]at h9⊢;rcases h9 with h9|h9<;>simp[h9])) (by simp))) F ?_)
 rintro vr O' ⟨N,rfl,jb,jc,rfl,rfl⟩
 refine aj F (ae (aM (ai (ad (a_ lH F AW F F) (ad (bi 2 jC F F F F) (ad (cQ jC F) (ah F (ae (aU ?_)))))))))
 refine dO (fun(i:Nat) ρ O=> ∃(jb:Option Addr) (jc:Nat),O=[aq jb jc 5 1 (di (iO (k::(s:Int)::sv (r.o.take i)))),aq (aD z2) 2 3 1 [vI k,vN s],oI z1 169 [vI k,vN s,(.slice r.b r.o.length r.c)]]∧i≤r.o.length∧dv [(0,(.agg #[vI k,vN s,(.slice r.b r.o.length r.c)])),(1,(.pointer (aD z1))),(2,(str [])),(3,(.slice jb ((iO (k::(s:Int)::sv (r.o.take i))).length) jc)),(13,(.slice r.b r.o.length r.c)),(14,vI (r.o.length:Int)),(15,vN i)] ρ) (fun i=>r.o.length-i) 0 ?_ ?_
 ·exact⟨jb,jc,F,bn _,(.of F)⟩
 rintro i ρ O ⟨jb,jc,rfl,hi,hH⟩
 obtain⟨gF,rfl⟩:=hH.elim
 clear hH
 have Rw: ∀n∈k::(s:Int)::sv (r.o.take i),mH n:=fun n hn9=>hn n (by
  simp only[dh]at hn9⊢
  rcases hn9 with h9|h9|h9
  ·exact .inl h9
  ·exact .inr (.inl h9)
  ·exact .inr (.inr (by obtain⟨p,hp,h8⟩:=List.mem_flatMap.1 h9;exact List.mem_flatMap.2 ⟨p,List.mem_of_mem_take hp,h8⟩)))
 have Oc:=pu Rw
 have SS:(sv (r.o.take i)).length≤128:=by rw[F7,ck];omega
 simp only[bo]at Oc
 refine ai (ad (cT F F) (ae (aM (aP F (fun hc=>?_) (fun hc=>?_)))))
 ·have CQ:i<r.o.length:=by omega
  refine aE (aM (aU (ai (ad (dT (i:=i) jC gP F F (aL hr) CQ (by rw[jO];omega)) (ad (eO (vs:=[vN (r.o[i].1),vN (r.o[i].2)]) ke F gP F F (br _) (aL hr) (nq CQ)) (ao F (bs gP F (fun z3=>?_))))))))
  refine ao F (bN (vs:=[vN (r.o[i].1),vN (r.o[i].2)]) 0 gP F F F F ?_)
  refine ae (a7 (ah F (ad (jA (i:=0) ke bj F F (by decide)) (ad (bi 0 dP F F F F) (ad (jA (i:=1) ke bj F F (by decide)) (ad (bi 0 dP F F F F) (ao F (cz (m:=2) (parts:=[(0,.tmp 21),(1,.tmp 23)]) (cs:=[vN (r.o[i].1),vN (r.o[i].2)]) cL bj (by decide) (by kernel_rfl) F (fun z4=>?_)))))))))
  have qC:=bW.under (A:=[aq jb jc 5 1 (di (iO (k::(s:Int)::sv (r.o.take i)))),aq (aD z4) 2 3 1 [vN (r.o[i].1),vN (r.o[i].2)]]) (B:=[oI z3 173 [vN (r.o[i].1),vN (r.o[i].2)],aq (aD z2) 2 3 1 [vI k,vN s],oI z1 169 [vI k,vN s,(.slice r.b r.o.length r.c)]]) (O:=[aq (aD z4) 2 3 1 [vN (r.o[i].1),vN (r.o[i].2)],oI z3 173 [vN (r.o[i].1),vN (r.o[i].2)],aq jb jc 5 1 (di (iO (k::(s:Int)::sv (r.o.take i)))),aq (aD z2) 2 3 1 [vI k,vN s],oI z1 169 [vI k,vN s,(.slice r.b r.o.length r.c)]]) (show bW _ _ _ _ _ (fun v O'=> ∃b' c',v=.slice b' (iO (k::(s:Int)::sv (r.o.take i))++iO [(r.o[i].1:Int),(r.o[i].2:Int)]).length c'∧O'=[aq b' c' 5 1 (di (iO (k::(s:Int)::sv (r.o.take i))++iO [(r.o[i].1:Int),(r.o[i].2:Int)])),aq (aD z4) 2 3 1 [vN (r.o[i].1),vN (r.o[i].2)]])from by
    have h9:=WI w jb (aD z4) jc (iO (k::(s:Int)::sv (r.o.take i))).length 2 2 (iO (k::(s:Int)::sv (r.o.take i))) [(r.o[i].1:Int),(r.o[i].2:Int)] F (fun n h9=>hn n (by
     have h8:n∈sv r.o:=List.mem_flatMap.2 ⟨r.o[i],aQ CQ,h9⟩
     exact List.mem_cons_of_mem _ (List.mem_cons_of_mem _ h8))) (by simp only[bo,bV];omega)
    rw[aw]
    exact h9) (by exact Sub.ew [aq (aD z4) 2 3 1 [vN (r.o[i].1),vN (r.o[i].2)],oI z3 173 [vN (r.o[i].1),vN (r.o[i].2)]] _ (.k (.k (.k (.k .z)))))
  refine ao F (bl ux qC F ?_)
  clear qC
  rintro vr O' ⟨A1,rfl,YE,YF,rfl,rfl⟩
  refine aj F (ae (a7 (ad (dy (a:=i) (b:=1) F F (by omega)) (ah F (ae ?_)))))
  have e9:iO (k::(s:Int)::sv (r.o.take (i+1)))=iO (k::(s:Int)::sv (r.o.take i))++iO [(r.o[i].1:Int),(r.o[i].2:Int)]:=by rw[aH CQ,KU,←cI,←cI,sq]
  exact⟨i+1,by omega,[aq YE YF 5 1 (di (iO (k::(s:Int)::sv (r.o.take i))++iO [(r.o[i].1:Int),(r.o[i].2:Int)])),aq (aD z2) 2 3 1 [vI k,vN s],oI z1 169 [vI k,vN s,(.slice r.b r.o.length r.c)]],(by exact Sub.k (.d (.d (.k (.k .z))))),YE,YF,by rw[e9],by omega,⟨F,F,F,(ax (fun n9:Nat=>Value.slice YE n9 YF) (by rw[e9,aw])),F,F,F,trivial⟩⟩
 have WJ: ¬i<r.o.length:=by omega
 refine cK ?_
 refine ai (ah F (ad (BS (l:=iO (k::(s:Int)::sv (r.o.take i))) lh ve fA F (mG 0 F) F) (aj F (ae (aK (aA ?_))))))
 refine aS (str (iO (k::(s:Int)::sv (r.o.take i)))) Tryz.results110 F ?_
 have we:i=r.o.length:=by omega
 subst we
 rw[List.take_length]
 exact⟨[],Sub.z,F,F⟩
theorem WK (w:World) [dE Tryz.prog w] (x y:CR) (zx:Nat) (hzx:Sl w (aD zx) x.cells) (hx:Sl w x.r.b (fE x.r.o)) (M2: ∀n∈x.cf.nums,mH n) (WL:x.r.o.length≤64) (hy:Sl w y.r.b (fE y.r.o)) (hny: ∀n∈y.cf.nums,mH n) (hly:y.r.o.length≤64):
  cH Tryz.prog 166 [.agg y.cells.toArray,(dW (aD zx) 0)] w fun v N=>v=.bool (decide (y.cf.key=x.cf.key))∧N=[]:=by
 refine aF func166 F ntmps166 F ?_
 refine ai (ao F (dG (cs:=[vI y.k,vN y.s,(.slice y.r.b y.r.o.length y.r.c)]) F F (fun nY=>?_)))
 refine aj F (ae (aM ?_))
 refine fD [(0,0),(2,0),(1,1),(3,2),(4,2),(5,2)] ?_
 refine au F (eu 0 lH F jq F F F) (au F (eO (vs:=[vI x.k,vN x.s,(.slice x.r.b x.r.o.length x.r.c)]) lH F jq F F (br _) (aL hzx) (fun j hj=>by rw[Nat.zero_add];exact ap hj)) ?_)
 refine cr F F (bl EH (aX fun w1 hI=>(haveI:=et hI;EG w1 y.k y.s y.r (hI.sl hy) hny hly)) F ?_)
 rintro vr O' ⟨N,rfl,rfl,rfl⟩
 refine⟨by exact Sub.rf,?_⟩
 refine b_ F F (bl EH (aX fun w1 hI=>(haveI:=et hI;EG w1 x.k x.s x.r (hI.sl hx) M2 WL)) F ?_)
 rintro vr O' ⟨N,rfl,rfl,rfl⟩
 refine b_ F F (d_ F F (KV F F) ?_)
 refine b_ F F (d_ F F (cx F) ?_)
 refine cw ?_
 refine aK (aA ?_)
 refine aS (.bool (decide (y.cf.key=x.cf.key))) Tryz.results166 F ?_
 exact⟨[],Sub.z,F,F⟩
end Go.Proofs.YtgdbfideeeegmaaGreatDoor

namespace Go.Proofs.YtgdbfideeeegmaaGreatDoor
open Go.Lx Go.RowKit _root_.Go.Proofs.Tryz
theorem KW {ls:List Lf} {vs:Nat} (hG:iw ls vs) {l:List CR} {x:CR} (hl: ∀y∈l,jk ls y.cf) (hx:jk ls x.cf):(l.any fun y=>decide (y.cf.key=x.cf.key))=decide (x.cf∈l.map CR.cf):=by
 by_cases h:x.cf∈l.map CR.cf
 ·rw[ay h]
  obtain⟨y,hy,e⟩:=List.mem_map.1 h
  exact List.any_eq_true.2 ⟨y,hy,ay (by rw[e])⟩
 ·rw[ak h,List.any_eq_false]
  intro y hy h9
  exact h (List.mem_map.2 ⟨y,hy,key_inj hG (hl y hy) hx (of_decide_eq_true h9)⟩)
theorem Z4 (base:World) [dE Tryz.prog base] {ls:List Lf} {vs:Nat} (hG:iw ls vs) (ov:Value) (zs:Nat) (bh:Value) (cb:Option Addr) (cc:Nat) (l:List CR) (p:List OB) (x:CR) (hl: ∀y∈l,jk ls y.cf) (hp: ∀y∈l,mg p y.r) (hx:jk ls x.cf) (MV:mg p x.r) (hK:l.length<1099511627776):
  bW Tryz.prog base 114 [ov,(.pointer (aD zs)),(.agg #[vI x.k,vN x.s,(.slice x.r.b x.r.o.length x.r.c)])] ([oI zs 122 [bh,(.slice cb l.length cc)],aq cb cc 169 3 (dt l)]++gg 173 p) (fun v O'=> ∃uz uA,v=.tuple #[]∧O'=[oI zs 122 [bh,(.slice uz ((yK l x).length) uA)],aq uz uA 169 3 (dt (yK l x))]++gg 173 p):=by
 refine aF func114 F ntmps114 F ?_
 refine ai (ao F (dG (cs:=[vI x.k,vN x.s,(.slice x.r.b x.r.o.length x.r.c)]) F F (fun z1=>?_)))
 refine ae (ai (ad (eZ) (aj F (ae (ai (ah F (ad (a8 F) (ad (a_ mb F qH F F) (ad (bi 1 nP F F F F) (ah F ?_))))))))))
 have Co:=fun(w1:World) (hI:Inv base ([oI z1 169 [vI x.k,vN x.s,(.slice x.r.b x.r.o.length x.r.c)],oI zs 122 [bh,(.slice cb l.length cc)],aq cb cc 169 3 (dt l)]++(gg 173 p)) w1)=>(haveI:=et hI;(show cH _ _ _ _ (fun v N=>v=Value.bool (decide (x.cf∈l.map CR.cf))∧N=[])from by
   have h9:=qG w1 cb cc l (hI.ii (mG 2 F)) (by omega) ((.func (.func 166) #[] #[(dW (aD z1) 0)])) (fun y=>decide (y.cf.key=x.cf.key)) (fun y hy=>cP (first:=[]) (args:=[(.agg #[vI y.k,vN y.s,(.slice y.r.b y.r.o.length y.r.c)])]) (gr:=[(dW (aD z1) 0)]) SU (WK w1 x y z1 (hI.j_ (mG 0 F)) (mg.sl (T:=173) hI (fun it fI=>am _ fI) MV) (hx.num hG) (hx.SV hG) (mg.sl (T:=173) hI (fun it fI=>am _ fI) (hp y hy)) ((hl y hy).num hG) ((hl y hy).SV hG)))
   rw[KW hG hl hx]at h9
   exact h9))
 refine ao F (bl KX (aX Co) F ?_)
 clear Co
 rintro vr O' ⟨N,rfl,rfl,rfl⟩
 refine ad (jh F) (ae (T.cond F (fun hc=>?_) (fun hc=>?_)))
 ·refine T.ds [oI z1 169 [vI x.k,vN x.s,(.slice x.r.b x.r.o.length x.r.c)],oI zs 122 [bh,(.slice cb l.length cc)]] [(0,0),(1,0),(2,0),(3,0),(4,0),(5,0),(6,1),(7,1),(8,0),(9,0),(10,2)] (by exact Sub.k (.k .z)) ?_
  refine au F (aN F) (au F (aN F) (au F (a8 F) (au F (a_ mb F qH F F) (au F (bi 1 nP F F F F) (au F (eu 0 lH F jq F F F) ?_)))))
  refine cr F F (cz (m:=1) (parts:=[(0,_)]) (cs:=[vI x.k,vN x.s,(.slice x.r.b x.r.o.length x.r.c)]) nP jq (by decide) (by kernel_rfl) F (fun z2=>⟨by exact Sub.d (.k (.k .z)),?_⟩))
  refine cr F F (cW 3 nP nP jq F F F F (by rw[pw]) (by decide) (Src.row (j:=0) F (by simp)) (by simp[fa]) (by omega) (by decide) (by decide) (fun z3 kH=>⟨by exact Sub.d (.k (.k .z)),?_⟩))
  refine au F (a8 F) (au F (a_ mb F qH F F) ?_)
  refine b_ F F (bN (vs:=[(.slice z3 (l.length+1) kH)]) 2 qH F F F F ?_)
  refine cw ?_
  refine aA ?_
  refine qZ.zero Tryz.results114 ?_
  have e9:yK l x=l++[x]:=az (by simpa using hc)
  exact⟨[oI zs 122 [bh,(.slice z3 (l.length+1) kH)],aq z3 kH 169 3 ((dt l)++[vI x.k,vN x.s,(.slice x.r.b x.r.o.length x.r.c)])]++gg 173 p,(by exact Sub.d (.d (.k (.k .rf)))),z3,kH,F,by rw[e9,CS,aw];rfl⟩
 refine aE (aA ?_)
 refine qZ.zero Tryz.results114 ?_
 have e9:yK l x=l:=aO (by simpa using hc)
 exact⟨[oI zs 122 [bh,(.slice cb l.length cc)],aq cb cc 169 3 (dt l)]++gg 173 p,(by exact Sub.d (.k (.k .rf))),cb,cc,F,by rw[e9]⟩
end Go.Proofs.YtgdbfideeeegmaaGreatDoor

namespace Go.Lx
open Go.RowKit
section
variable {P:Program} {base:World} {O:List Item} {ρ:Env} {dst:Option Nat} {t:TypeId} {p:String} {af:Array Edge} {g:Option (Nat×Bool)}
theorem E2 {T E:TypeId} {z:Value} {gQ:Nat} (hu:P.underlying T=some (.array 2 E)) (hE:P.underlying E=some (.int .i64)) (hi:fP P E z 1 gQ) (n:Nat) (a b c d:Int) (w:World):
  (Op.equalIn (n+2) T (.agg #[.int .i64 a,.int .i64 b]) (.agg #[.int .i64 c,.int .i64 d])).run P w=.ok (decide (a=c∧b=d)) w:=by
 have hs: ∀w,(Go.sizeOf E).run P w=.ok 1 w:=fun w=>bX hi w
 have he: ∀(u v:Int) w,(Op.equalIn (n+1) E (.int .i64 u) (.int .i64 v)).run P w=.ok (u==v) w:=fun u v w=>run_equalIn_int w n E .i64 .i64 u v hE
 have RA: ∀w,(isAgg E).run P w=.ok false w:=fun w=>by simp[isAgg,bG hE]
 rw[Op.equalIn]
 generalize hq:Op.equalIn (n+1) E=q at he
 simp only[Sem.run_bind,bG hu,Result.andThen_ok,hs]
 by_cases h1:a=c
 ·by_cases h2:b=d
  ·subst h1 h2
   simp[List.range',part,he,RA,hs,hq]
  ·subst h1
   simp[List.range',part,he,RA,hs,h2,hq]
 ·simp[List.range',part,he,RA,hs,h1,hq]
theorem HZ {x y:Operand} {T U E:TypeId} {a b c d:Int} {z:Value} {gQ:Nat} (hu:P.underlying T=some (.array 2 E)) (hE:P.underlying E=some (.int .i64)) (hi:fP P E z 1 gQ) (hm:P.eqGuardType P.depth T=false)
  (hx:ev ρ x=.agg #[.int .i64 a,.int .i64 b]) (hy:ev ρ y=.agg #[.int .i64 c,.int .i64 d]):QT P base ⟨dst,.binOp .eql T x y U,t,p,af,g⟩ ρ O (.bool (decide (a=c∧b=d))):=fun w _=>by
 have h:=E2 hu hE hi 9998 a b c d w
 simp[execOp,hx,hy,run_eqGuard_agg w .eql T x y _ _ hm,run_eql_struct,h]
theorem xB {x:Operand} {T E:TypeId} {b m gQ:Nat} {z:Value} (hu:P.underlying T=some (.array m E)) (hi:fP P E z 1 gQ) (hx:ev ρ x=.pointer (some ⟨b,0,none⟩)) (h0:1≤m):
  QT P base ⟨dst,.slice T x none none none,t,p,af,g⟩ ρ O (.slice (some ⟨b,0,none⟩) m m):=fun w hI=>by
 simp[execOp,Instr.sliceAt,Instr.sureAddr,hx,bG hu,bX hi,Instr.sliceBounds,qY]
end
theorem Ox {n:Nat} (h:n<18446744073709551616):IntKind.u64.wrap (n:Int)=(n:Int):=by simp[IntKind.wrap,IntKind.bits,IntKind.signed];omega
end Go.Lx

namespace Go.Proofs.YtgdbfideeeegmaaGreatDoor
open Go.Lx Go.RowKit _root_.Go.Proofs.Tryz
theorem WM (w:World) [dE Tryz.prog w] (a:Int):
  cH Tryz.prog 240 [vI a] w fun v N=>v=.bool false∧N=[]:=by
 refine aF func240 F ntmps240 F ?_
 refine ai (aj F (ae (ai (ah F (ah F (ad (bK (dQ F F) (v':=.bool false) (by simp)) (aj F (ae (aK (aA ?_))))))))))
 refine aS (.bool false) Tryz.results240 F ?_
 exact⟨[],Sub.z,F,F⟩
theorem gtC (w:World) [dE Tryz.prog w] (a b:Int) (h:b<a):
  cH Tryz.prog 213 [vI a,vI b] w fun v N=>v=vI 1∧N=[]:=by
 refine aF func213 F ntmps213 F ?_
 refine ai (aj F (ae (ai (ah F (ao F (bl KY (aX fun w1 hI=>(haveI:=et hI;WM w1 a)) F ?_))))))
 rintro vr O' ⟨N,rfl,rfl,rfl⟩
 refine aj F (ae (ai (ah F (ao F (bl KY (aX fun w1 hI=>(haveI:=et hI;WM w1 b)) F ?_)))))
 rintro vr O' ⟨N,rfl,rfl,rfl⟩
 refine aj F (ae (aM (ai (ah F (ae (a6 F (aE (aM (ai (ah F (ae ?_)))))))))))
 refine a6 F (aE (aM (ai (ah F (ah F (ad (aB (cT F F) (ak (by omega))) (ae (a6 F (aE (aM (ai (ah F (ah F (ad (aB (iy F F) (ay (by omega))) (ae ?_)))))))))))))))
 refine bO F ?_
 refine ai (aj F (ae (aK (aA ?_))))
 refine aS (vI 1) Tryz.results213 F ?_
 exact⟨[],Sub.z,F,F⟩
theorem WN (w:World) [dE Tryz.prog w] (a1 a2:Int) (ba:Option Addr) (ca:Nat) (ha:Sl w ba [vI a1,vI a2]) (b1 b2:Int) (bb:Option Addr) (cb:Nat) (hb:Sl w bb [vI b1,vI b2]) (h:b1<a1):
  cH Tryz.prog 165 [.slice ba 2 ca,.slice bb 2 cb] w fun v N=>v=vI 1∧N=[]:=by
 refine aF func165 F ntmps165 F ?_
 refine ai (aj F (ae (aM (ai (ah F (ad (cQ cL F) (ah F (ae (aU ?_)))))))))
 refine eF (fun(k:Nat) ρ O=>O=[]∧k=0∧dv [(0,(.slice ba 2 ca)),(1,(.slice bb 2 cb)),(9,(.slice ba 2 ca)),(10,vI (2:Int)),(11,vN k)] ρ) (fun k=>2-k) 0 ?_ ?_
 ·exact⟨F,F,(.of F)⟩
 rintro k ρ O ⟨rfl,hk,hH⟩
 obtain⟨gF,rfl⟩:=hH.elim
 clear hH
 refine ai (ad (aB (cT F F) (ay (by omega))) (ae (aM ?_)))
 refine bO F ?_
 refine aE (aM (aU (ai (ah F (ad (dU (i:=k) cL bj F F (aL ha) (by omega) (by simp;omega)) (ad (de dP F F (aL ha) (by rw[hk];rfl)) (aj F (aj F (ae (aM (ai (ah F (ah F (ad (cQ cL F) (ad (aB (lB F F) (ak (by omega))) (ae (a6 F (aE (ai ?_)))))))))))))))))))
 refine ah F (ah F (ad (dU (i:=k) cL bj F F (aL hb) (by omega) (by simp;omega)) (ad (de dP F F (aL hb) (by rw[hk];rfl)) (aj F (ae (ai (ah F (ah F (ao F (bl SW (aX fun w1 hI=>(haveI:=et hI;gtC w1 a1 b1 h)) F ?_))))))))))
 rintro vr O' ⟨N,rfl,rfl,rfl⟩
 refine aj F (ae (ai (ah F (ad (aB (dQ F F) (ay (by decide))) (ae ?_)))))
 refine bO F ?_
 refine ai (ah F (aj F (ae (aK (aA ?_)))))
 refine aS (vI 1) Tryz.results165 F ?_
 exact⟨[],Sub.z,F,F⟩
theorem WO (w:World) [dE Tryz.prog w] (p r:Ob) (h:r.1<p.1):
  cH Tryz.prog 164 [(.agg #[vN p.1,vN p.2]),(.agg #[vN r.1,vN r.2])] w fun v N=>v=vI 1∧N=[]:=by
 refine aF func164 F ntmps164 F ?_
 refine ai (ao F (dG (cs:=[vN p.1,vN p.2]) F F (fun z1=>?_)))
 refine ao F (dG (cs:=[vN r.1,vN r.2]) F F (fun z2=>?_))
 refine aj F (ae (aM ?_))
 refine fD [(0,0),(1,0),(2,2),(3,2)] ?_
 refine au F (xB ke bj F (by omega)) (au F (xB ke bj F (by omega)) ?_)
 refine b_ F F (bl SX (aX fun w1 hI=>(haveI:=et hI;WN w1 (p.1:Int) (p.2:Int) _ 2 (hI.j_ (mG 1 F)) (r.1:Int) (r.2:Int) _ 2 (hI.j_ (mG 0 F)) (by omega))) F ?_)
 rintro vr O' ⟨N,rfl,rfl,rfl⟩
 refine b_ F F (d_ F F (cx F) ?_)
 refine cw ?_
 refine aK (aA ?_)
 refine aS (vI 1) Tryz.results164 F ?_
 exact⟨[],Sub.z,F,F⟩
theorem WP (w:World) [dE Tryz.prog w] (b:Option Addr) (c:Nat) (o:List Ob) (hS:Sl w b (fE o)) (ha:o.Pairwise fun p q=>p.1<q.1) (hl:o.length≤12):
  cH Tryz.prog 232 [.slice b o.length c,vI 0,vN o.length,(.func (.func 164) #[] #[])] w fun v N=>v=.tuple #[]∧N=[]:=by
 refine aF func232 F ntmps232 F ?_
 refine ai (ah F (ad (bK (dL F F (by omega)) (v':=vN 1) F) (aj F (ae (aU ?_)))))
 refine eF (fun(i:Nat) ρ O=>O=[]∧1≤i∧dv [(0,(.slice b o.length c)),(1,vI 0),(2,vN o.length),(3,(.func (.func 164) #[] #[])),(8,vN i)] ρ) (fun i=>o.length-i) 1 ?_ ?_
 ·exact⟨F,bF _,(.of F)⟩
 rintro i ρ O ⟨rfl,hi,hH⟩
 obtain⟨gF,rfl⟩:=hH.elim
 clear hH
 refine aM (ai (ah F (ah F (ad (cT F F) (ae (aP F (fun hc=>?_) (fun hc=>?_)))))))
 ·have pN:i<o.length:=by omega
  have YI:i<o.length:=by omega
  refine aE (aM (aU (ai (ah F (aj F (ae (aU ?_)))))))
  refine eF (fun(j:Nat) ρ O=>O=[]∧j=i∧dv [(0,(.slice b o.length c)),(1,vI 0),(2,vN o.length),(3,(.func (.func 164) #[] #[])),(8,vN i),(9,vN j)] ρ) (fun j=>j) i ?_ ?_
  ·exact⟨F,F,(.of F)⟩
  rintro j ρ O ⟨rfl,Fv,hH⟩
  obtain⟨gF,rfl⟩:=hH.elim
  clear hH
  have YJ:j<o.length:=by omega
  have YK:o[j-1].1<o[j].1:=(List.pairwise_iff_getElem.1 ha) (j-1) j (by omega) (by omega) (by omega)
  refine aM (aM ?_)
  refine fD [(0,0),(1,0),(2,0),(3,0),(4,0),(5,0),(6,0),(7,0),(8,0),(9,0),(10,0),(11,0),(12,0),(13,0),(14,2),(15,2),(16,2)] ?_
  refine au F (aN F) (au F (aN F) (au F (aB (iy F F) (ay (by omega))) (au F (aN F) ?_)))
  refine bu F F F (aN F) ?_
  refine bu F F F (aN F) ?_
  refine bu F F F (aN F) ?_
  refine bu F F F (dT (i:=j) jC gP F F (aL hS) (by omega) (by rw[jO];omega)) ?_
  refine bu F F F (eO (vs:=[vN ((o[j]'(by omega)).1),vN ((o[j]'(by omega)).2)]) ke F gP F F (br _) (aL hS) (nq (show j<o.length by omega))) ?_
  refine bu F F F (aN F) ?_
  refine bu F F F (aN F) ?_
  refine bu F F F (bK (fH F F (by omega)) (v':=vN (j-1)) (ax (Value.int .i64) (by omega))) ?_
  refine bu F F F (dT (i:=(j-1)) jC gP F F (aL hS) (by omega) (by rw[jO];omega)) ?_
  refine bu F F F (eO (vs:=[vN ((o[j-1]'(by omega)).1),vN ((o[j-1]'(by omega)).2)]) ke F gP F F (br _) (aL hS) (nq (show j-1<o.length by omega))) ?_
  have J3:=(ep (base:=w) (O:=[]) fun w1 hI=>haveI:=et hI;cP (first:=[]) (args:=[(.agg #[vN (o[j].1),vN (o[j].2)]),(.agg #[vN (o[j-1].1),vN (o[j-1].2)])]) (gr:=[]) SY (WO w1 _ _ YK))
  refine sh F F F F (eN J3 F F ?_)
  clear J3
  rintro vr O' ⟨N,rfl,rfl,rfl⟩
  refine sh F F F F (d_ F F (aB (cT F F) (ak (by decide))) ?_)
  refine b_ F F (d_ F F (cA F F) ?_)
  refine cw ?_
  refine a6 F ?_
  refine cK ?_
  refine a7 (ah F (ad (dy (a:=i) (b:=1) F F (by omega)) (aj F (ae ?_))))
  exact⟨i+1,by omega,F,by omega,(.of F)⟩
 have xC: ¬i<o.length:=by omega
 refine cK ?_
 refine aA ?_
 refine qZ.zero Tryz.results232 ?_
 exact⟨[],Sub.z,F,F⟩
theorem WQ (w:World) [dE Tryz.prog w] (b:Option Addr) (c:Nat) (o:List Ob) (hS:Sl w b (fE o)) (ha:o.Pairwise fun p q=>p.1<q.1) (hl:o.length≤12) (lim:Int):
  cH Tryz.prog 212 [.slice b o.length c,vI 0,vN o.length,vI lim,(.func (.func 164) #[] #[])] w fun v N=>v=.tuple #[]∧N=[]:=by
 refine aF func212 F ntmps212 F ?_
 refine ai (aj F (ae (ai (aj F (ae (aU ?_))))))
 refine pf 1 (T.round ?_)
 refine aU (ai ?_)
 refine ah F (ah F (ad (bK (fH F F (by omega)) (v':=vN o.length) (ax (Value.int .i64) (by omega))) (aj F (ae (aM (ai (ah F (ad (aB (Jn F F) (ay (by omega))) (ae ?_)))))))))
 refine bO F ?_
 refine ai (ah F (ah F (ah F (ah F (ao F (bl SZ (aX fun w1 hI=>(haveI:=et hI;WP w1 b c o (hI.sl hS) ha hl)) F ?_))))))
 rintro vr O' ⟨N,rfl,rfl,rfl⟩
 refine ae (aK (aA ?_))
 refine qZ.zero Tryz.results212 ?_
 exact⟨[],Sub.z,F,F⟩
theorem KZ (w:World) [dE Tryz.prog w] (n:Nat) (hn:n<1000):cH Tryz.prog 159 [.int .u64 (n:Int)] w fun v N=>v=vI (Lib.bitLen n:Int)∧N=[]:=fun w1 M hI=>by
 have h:=Go.Proofs.Any.bits_Len (P:=Tryz.prog) (ρ:=Tryz.vm) {Tryz.AX with} (n:Int) w1 (by omega) (by omega)
 rw[Int.toNat_natCast]at h
 refine h.mono ?_
 rintro e w' ⟨rfl,rfl⟩
 exact⟨_,_,F,hI,F,F⟩
theorem S0 (w:World) [dE Tryz.prog w] (b:Option Addr) (c:Nat) (o:List Ob) (hS:Sl w b (fE o)) (ha:o.Pairwise fun p q=>p.1<q.1) (hl:o.length≤12):
  cH Tryz.prog 163 [.slice b o.length c,(.func (.func 164) #[] #[])] w fun v N=>v=.tuple #[]∧N=[]:=by
 refine aF func163 F ntmps163 F ?_
 refine ai (ah F (ad (cQ jC F) (aj F (ae (a7 (ah F (ah F (ah F (ad (fX dP P4 F (Ox (by omega))) (ao F (bl S1 (aX fun w1 hI=>(haveI:=et hI;KZ w1 o.length (by omega))) F ?_)))))))))))
 rintro vr O' ⟨N,rfl,rfl,rfl⟩
 refine ah F (ao F (bl S3 (aX fun w1 hI=>(haveI:=et hI;WQ w1 b c o (hI.sl hS) ha hl (Lib.bitLen o.length:Int))) F ?_))
 rintro vr O' ⟨N,rfl,rfl,rfl⟩
 refine ae (aA ?_)
 refine qZ.zero Tryz.results163 ?_
 exact⟨[],Sub.z,F,F⟩
theorem S4 (w:World) [dE Tryz.prog w] (b:Option Addr) (c:Nat) (o:List Ob) (hS:Sl w b (fE o)) (hl:o.length≤12) (x:Ob) (hx: ∀p∈o,p.1<x.1):
  cH Tryz.prog 211 [.slice b o.length c,(.agg #[vN x.1,vN x.2])] w fun v N=>v=vI (-1)∧N=[]:=by
 refine aF func211 F ntmps211 F ?_
 refine ai (ao F (dG (cs:=[vN x.1,vN x.2]) F F (fun nY=>?_)))
 refine aj F (ae (aM (ai (ah F (ad (cQ jC F) (ah F (ae (aU ?_))))))))
 refine eF (fun(i:Nat) ρ O=>O=[oI nY 173 [vN x.1,vN x.2]]∧i≤o.length∧dv [(0,(.slice b o.length c)),(1,(.agg #[vN x.1,vN x.2])),(3,(.pointer (aD nY))),(7,vI (o.length:Int)),(8,vN i)] ρ) (fun i=>o.length-i) 0 ?_ ?_
 ·exact⟨F,bn _,(.of F)⟩
 rintro i ρ O ⟨rfl,hi,hH⟩
 obtain⟨gF,rfl⟩:=hH.elim
 clear hH
 refine ai (ad (cT F F) (ae (aM (aP F (fun hc=>?_) (fun hc=>?_)))))
 ·have ku:i<o.length:=by omega
  have YI:i<o.length:=by omega
  have v_:=hx _ (aQ YI)
  refine aE (aM (aU (ai (ah F (aj F (ae (aM ?_)))))))
  refine fD [(0,0),(1,0),(2,0),(3,0),(4,0),(5,0)] ?_
  refine au F (eu 0 ke F gP F F F) (au F (aN F) (au F (aN F) (au F (dT (i:=i) jC gP F F (aL hS) YI (by rw[jO];omega)) (au F (eO (vs:=[vN (o[i].1),vN (o[i].2)]) ke F gP F F (br _) (aL hS) (nq YI)) (au F (bK (HZ ke dP bj (by kernel_rfl) F F) (v':=.bool false) (ax Value.bool (ak (by omega)))) ?_)))))
  refine cw ?_
  refine a6 F (aE (a7 (ad (dy (a:=i) (b:=1) F F (by omega)) (ah F (ae ?_)))))
  exact⟨i+1,by omega,F,by omega,(.of F)⟩
 have Kf: ¬i<o.length:=by omega
 refine cK ?_
 refine ai (aj F (ae (aK (aA ?_))))
 refine aS (vI (-1)) Tryz.results211 F ?_
 exact⟨[],Sub.z,F,F⟩
theorem H0 (w:World) [dE Tryz.prog w] (b:Option Addr) (c:Nat) (o:List Ob) (hS:Sl w b (fE o)) (hl:o.length≤12) (x:Ob) (hx: ∀p∈o,p.1<x.1):
  cH Tryz.prog 161 [.slice b o.length c,(.agg #[vN x.1,vN x.2])] w fun v N=>v=.bool false∧N=[]:=by
 refine aF func161 F ntmps161 F ?_
 refine ai (ao F (dG (cs:=[vN x.1,vN x.2]) F F (fun nY=>?_)))
 refine aj F (ae (ai (ah F (ad (eu 0 ke F gP F F F) (ao F (bl S5 (aX fun w1 hI=>(haveI:=et hI;S4 w1 b c o (hI.sl hS) hl x hx)) F ?_))))))
 rintro vr O' ⟨N,rfl,rfl,rfl⟩
 refine ad (bK (lB F F) (v':=.bool false) F) (aj F (ae (aK (aA ?_))))
 refine aS (.bool false) Tryz.results161 F ?_
 exact⟨[],Sub.z,F,F⟩
theorem EI (o:List Ob):((fE o).all fa)=true:=by
 rw[fC]
 intro v hv
 obtain⟨p,_,hv⟩:=List.mem_flatMap.1 hv
 simp only[dh,List.not_mem_nil,or_false]at hv
 rcases hv with rfl|rfl<;>rfl
theorem H1 (w:World) [dE Tryz.prog w] (c:Nat):
  cH Tryz.prog 162 [.slice none 0 c] w fun v N=> ∃b' c',v=.slice b' 0 c'∧N=[aq b' c' 173 2 []]:=by
 refine aF func162 F ntmps162 F ?_
 refine ai (aj F (ae (aM (ai (ah F (ad (BT jC F F) (ae ?_)))))))
 refine bO F ?_
 refine aM (T.eX 173 2 ?_)
 refine a7 (aj F (ae (aK ?_)))
 refine aS nS Tryz.results162 F ?_
 exact⟨_,_,F,F⟩
theorem EJ (w:World) [dE Tryz.prog w] (a:Addr) (c:Nat) (o:List Ob) (h1:Sl w (some a) (fE o)) (hb:o.length≤12):
  cH Tryz.prog 162 [.slice (some a) o.length c] w fun v N=> ∃b' c',v=.slice b' o.length c'∧N=[aq b' c' 173 2 (fE o)]:=by
 refine aF func162 F ntmps162 F ?_
 refine ai (aj F (ae (aM (ai (ah F (ad (BT jC F F) (ae (a6 F (aE (ai (ao F (cz (m:=0) (parts:=[]) (cs:=[]) jC gP (by decide) (by simp[Instr.fill]) F (fun b1=>?_)))))))))))))
 refine ah F (ao F (cW 0 jC jC gP F F F F (by simp) (by decide) (Src.sl h1 (by rw[jO])) (EI o) (by omega) (by decide) (by decide) (fun nY c2=>?_)))
 refine aj F (ae (aK ?_))
 refine aS (.slice nY (0+o.length) c2) Tryz.results162 F ?_
 exact⟨_,_,by rw[Nat.zero_add],F⟩
theorem K0 (w:World) [dE Tryz.prog w] (b:Option Addr) (c:Nat) (o:List Ob) (h1:Sl w b (fE o)) (hb:o.length≤12):
  cH Tryz.prog 162 [.slice b o.length c] w fun v N=> ∃b' c',v=.slice b' o.length c'∧N=[aq b' c' 173 2 (fE o)]:=by
 cases b with
 |none=>
  have hx:o=[]:=by
   cases o with
   |nil=>rfl
   |cons x xs=>obtain⟨_,_,e⟩:=h1.addr (i:=0) (by simp[fE]);cases e
  subst hx
  exact H1 w c
 |some a=>exact EJ w a c o h1 hb
end Go.Proofs.YtgdbfideeeegmaaGreatDoor

namespace Go.Proofs.YtgdbfideeeegmaaGreatDoor
open Go.Lx Go.RowKit _root_.Go.Proofs.Tryz
theorem qI {ls:List Lf} {ks:List LK} {k:Nat} (hk:ks.length=ls.length) (h:k<ls.length) (j:Nat) {v:Value} (hv:(kI (lf ls k) (lk ks k))[j]? =some v) {n:Nat} (hn:n=k*7+j):(dj ls ks)[n]? =some v:=by
 obtain⟨hj,rfl⟩:=List.getElem?_eq_some_iff.1 hv
 subst hn
 exact xD hk h j hj
theorem WR (w:World) [dE Tryz.prog w] (ob:Nat) (lb:Option Addr) (lc:Nat) (cv fv:Value) (ls:List Lf) (ks:List LK) (ho:ll w ob lb lc cv fv ls ks) (vs:Nat) (hG:iw ls vs) (r:OB) (hr:Sl w r.b (fE r.o)) (x:Ob) (m:Nat) (HP:fV ls m r.o) (hm:m≤x.1) (hk:x.1<ls.length) (hs:x.2<(lf ls x.1).d.next.length):
  cH Tryz.prog 113 [(dW (aD ob) 0),.slice r.b r.o.length r.c,(.agg #[vN x.1,vN x.2])] w fun v N=> ∃pl r2,v=OB.val r2∧N=gg 173 pl∧r2.o=oH ls r.o x∧((pl=[]∧r2=r)∨pl=[r2]):=by
 refine aF func113 F ntmps113 F ?_
 have hv:=hG.kg hk
 have iA:=hG.len
 have SS:=HP.len
 refine ai (ao F (dG (cs:=[vN x.1,vN x.2]) F F (fun z1=>?_)))
 refine aj F (ae (aM (aM ?_)))
 refine fD [(0,0),(1,0),(2,0),(3,0),(4,0),(5,0),(6,0),(7,0),(8,0),(9,0),(10,0),(11,0),(12,0),(13,0),(14,0),(15,0),(16,0),(17,2),(18,2)] ?_
 refine au F (aN F) (au F (a8 F) (au F (cy gA F gD F F (aL ho.bx) (by first|omega|(simp;done)|(simp;omega)|(simp_all;done)|(simp_all;omega))) (au F (de fB F F (aL ho.bx) F) (au F (jA (i:=0) ke bj F F (by decide)) (au F (bi 0 dP F F F F) (au F (dT (i:=x.1) fB fe F F (aL ho.rw) hk (by rw[dS ho.kl];omega)) (au F (cy iz F bL F F (aL ho.rw) (by rw[dS ho.kl];omega)) (au F (cy cZ F dA F F (aL ho.rw) (by rw[dS ho.kl];show x.1*7+1<_;omega)) (au F (de eB F F (aL ho.rw) (qI ho.kl hk 4 F F)) (au F (jA (i:=1) ke bj F F (by decide)) (au F (bi 0 dP F F F F) (au F (dU (i:=x.2) eB fx F F (aL (ho.dk _ hk).aY) (by rw[hv.fin];exact hs) (by rw[ar,hv.fin];exact hs)) (au F (de AG F F (aL (ho.dk _ hk).aY) (o5 hv hs)) ?_)))))))))))))
 by_cases nF:dr (lf ls x.1).d x.2=true
 ·refine au F (aB (aN F) (nF)) ?_
  refine bM F F F (bM F F F ?_)
  refine Aw (by decide) F F F F F ?_
  refine b_ F F (d_ F F (cA F F) ?_)
  refine cw ?_
  refine bO F ?_
  refine ai (ah F (aj F (ae (aK (aA ?_)))))
  refine aS (.slice r.b r.o.length r.c) Tryz.results113 F ?_
  have e9:oH ls r.o x=r.o:=aO nF
  exact⟨[],Sub.z,[],r,by first|rfl|(rw[e9];rfl),F,e9.symm,.inl ⟨F,F⟩⟩
 refine au F (aB (aN F) (Bool.eq_false_iff.2 nF)) ?_
 refine bu F F F (aN F) ?_
 refine bu F F F (eu 0 ke F gP F F F) ?_
 have qC:=fun(w1:World) (hI:Inv w [oI z1 173 [vN x.1,vN x.2]] w1)=>(haveI:=et hI;H0 w1 r.b r.c r.o (hI.sl hr) (by omega) x (fun p hp=>eQ (HP.2 p hp).1 hm))
 refine sh F F F F (bl S6 (aX qC) F ?_)
 clear qC
 rintro vr O' ⟨N,rfl,rfl,rfl⟩
 refine b_ F F (d_ F F (cg F F) ?_)
 refine cw ?_
 refine a6 F (aE ?_)
 refine gz (fun ρ O=> ∃(ab:Option Addr) (ac zb:Nat),O=[aq ab ac 173 2 ((fE r.o)++[vN x.1,vN x.2]),aq (aD zb) 1 173 2 [vN x.1,vN x.2],oI z1 173 [vN x.1,vN x.2]]∧dv [(0,(dW (aD ob) 0)),(1,(.slice r.b r.o.length r.c)),(2,(.agg #[vN x.1,vN x.2])),(5,(.pointer (aD z1))),(6,nS),(7,(.slice ab (r.o.length+1) ac))] ρ) ?_ ?_
 ·refine oe [oI z1 173 [vN x.1,vN x.2]] 6 mixed F (by exact Sub.rf) (fun _ _ _ _ h=>h) ?_
  refine cB 0 F (by kernel_rfl) (aN F) ?_
  refine cB 2 F (by kernel_rfl) (eu 0 ke F gP F F F) ?_
  have tw:=fun(w1:World) (hI:Inv w [oI z1 173 [vN x.1,vN x.2]] w1)=>(haveI:=et hI;K0 w1 r.b r.c r.o (hI.sl hr) (by omega))
  refine bg [1,3] (by kernel_rfl) F ⟨⟨_,F,F,bl K1 (aX tw) F ?_⟩,⟨_,F,F,cz (m:=1) (parts:=[(0,_)]) (cs:=[vN x.1,vN x.2]) jC gP (by decide) (by kernel_rfl) F (fun zb=>⟨by exact Sub.d (.k .z),?_⟩)⟩,trivial⟩
  ·clear tw
   rintro vr O' ⟨N,rfl,nb,nc,rfl,rfl⟩
   refine⟨by exact Sub.d (.k .z),?_⟩
   refine bg [3] (by kernel_rfl) F ⟨⟨_,F,F,cz (m:=1) (parts:=[(0,_)]) (cs:=[vN x.1,vN x.2]) jC gP (by decide) (by kernel_rfl) F (fun zb=>⟨by exact Sub.d (.d (.k .z)),?_⟩)⟩,trivial⟩
   refine bg [4] (by kernel_rfl) F ⟨⟨_,F,F,cW 1 jC jC gP F F F F (by rw[jO]) (by decide) (Src.row (j:=0) F (by simp)) (by simp[fa]) (by omega) (by decide) (by decide) (fun ab ac=>⟨by exact Sub.d (.d (.k .z)),?_⟩)⟩,trivial⟩
   refine cB 5 F (by kernel_rfl) (cx F) ?_
   exact dw (by kernel_rfl) ⟨ab,ac,zb,F,(.of F)⟩ (by exact Sub.ew [aq (aD zb) 1 173 2 [vN x.1,vN x.2]] _ (.k (.k .z)))
  have tw:=fun(w1:World) (hI:Inv w [aq (aD zb) 1 173 2 [vN x.1,vN x.2],oI z1 173 [vN x.1,vN x.2]] w1)=>(haveI:=et hI;K0 w1 r.b r.c r.o (hI.sl hr) (by omega))
  refine bg [1] (by kernel_rfl) F ⟨⟨_,F,F,bl K1 (aX tw) F ?_⟩,trivial⟩
  clear tw
  rintro vr O' ⟨N,rfl,nb,nc,rfl,rfl⟩
  refine⟨by exact Sub.d (.d (.k .z)),?_⟩
  refine bg [4] (by kernel_rfl) F ⟨⟨_,F,F,cW 0 jC jC gP F F F F (by rw[jO]) (by decide) (Src.row (j:=1) F (by simp)) (by simp[fa]) (by omega) (by decide) (by decide) (fun ab ac=>⟨by exact Sub.d (.d (.k .z)),?_⟩)⟩,trivial⟩
  refine cB 5 F (by kernel_rfl) (cx F) ?_
  exact dw (by kernel_rfl) ⟨ab,ac,zb,F,(.of F)⟩ (by exact Sub.rf)
 rintro ρ O ⟨ab,ac,zb,rfl,hH⟩
 obtain⟨gF,rfl⟩:=hH.elim
 clear hH
 refine ai (ah F ?_)
 have JT:=fun(w1:World) (hI:Inv w [aq ab ac 173 2 ((fE r.o)++[vN x.1,vN x.2]),aq (aD zb) 1 173 2 [vN x.1,vN x.2],oI z1 173 [vN x.1,vN x.2]] w1)=>(haveI:=et hI;(show cH _ _ _ _ (fun v N=>v=Value.tuple #[]∧N=[])from by
   have h9:=S0 w1 ab ac (r.o++[x]) (by rw[vn];exact hI.ii (mG 0 F)) (List.pairwise_append.2 ⟨HP.1,List.pairwise_singleton _ _,fun p hp q hq=>by rw[List.mem_singleton.1 hq];exact eQ (HP.2 p hp).1 hm⟩) (by rw[aw];simp;omega)
   rw[aw]at h9
   exact h9))
 refine ao F (bl S7 (aX JT) F ?_)
 clear JT
 rintro vr O' ⟨N,rfl,rfl,rfl⟩
 refine ae (ai (ah F (aj F (ae (aK (aA ?_))))))
 refine aS (.slice ab (r.o.length+1) ac) Tryz.results113 F ?_
 have e9:oH ls r.o x=r.o++[x]:=az nF
 exact⟨[aq ab ac 173 2 ((fE r.o)++[vN x.1,vN x.2])],(by exact Sub.k .z),[⟨ab,ac,r.o++[x]⟩],⟨ab,ac,r.o++[x]⟩,by show _=Value.slice _ (r.o++[x]).length _;rw[aw];rfl,by show[_]=[aq _ _ _ _ (fE (r.o++[x]))];rw[vn],e9.symm,.inr F⟩
end Go.Proofs.YtgdbfideeeegmaaGreatDoor

namespace Go.Proofs.YtgdbfideeeegmaaGreatDoor
open Go.Lx Go.RowKit _root_.Go.Proofs.Tryz
def qJ (base:World) (f:FuncId) (args:List Value) (zs:Nat) (bb:Option Addr) (bc mm:Nat) (bh:List Nat) (ls:List Lf) (r:OB) (E:List Cf):Prop:= ∀(cb:Option Addr) (cc:Nat) (l:List CR) (p:List OB),ly ls l p→mg p r→
 bW Tryz.prog base f args ([dF zs (.cells (List.toArray [(.slice bb bh.length bc),(.slice cb l.length cc)]) 122 (0,0)),aq cb cc 169 3 (dt l),aq bb mm 3 1 (bS bh)]++gg 173 p) (fun v O'=> ∃uz uA l' p',v=.tuple #[]∧O'=[dF zs (.cells (List.toArray [(.slice bb bh.length bc),(.slice uz l'.length uA)]) 122 (0,0)),aq uz uA 169 3 (dt l'),aq bb mm 3 1 (bS bh)]++gg 173 p'∧l'.map CR.cf=E.foldl add (l.map CR.cf)∧ly ls l' p'∧(∀x∈p,x∈p'))
theorem S8 (base:World) [dE Tryz.prog base] {ls:List Lf} {vs:Nat} (hG:iw ls vs) {K:Nat} (hK:qy ls K) (xE:K<1099511627776) (ov:Value) (zs:Nat) (bb:Option Addr) (bc:Nat) (bh:List Nat) (B:List Lx.Item) (cb:Option Addr) (cc:Nat) (l:List CR) (p:List OB) (x:CR) (hS:ly ls l p) (hx:jk ls x.cf) (MV:mg p x.r) {O:List Lx.Item} (hs:Sub ([dF zs (.cells (List.toArray [(.slice bb bh.length bc),(.slice cb l.length cc)]) 122 (0,0)),aq cb cc 169 3 (dt l)]++B) O):
  bW Tryz.prog base 114 [ov,.pointer (aD zs),(.agg #[vI x.k,vI ((x.s:Nat):Int),(.slice x.r.b x.r.o.length x.r.c)])] (O++gg 173 p) (fun v O'=> ∃uz uA l',v=.tuple #[]∧O'=([dF zs (.cells (List.toArray [(.slice bb bh.length bc),(.slice uz l'.length uA)]) 122 (0,0)),aq uz uA 169 3 (dt l')]++B)++gg 173 p∧l'.map CR.cf=[x.cf].foldl add (l.map CR.cf)∧ly ls l' p):=by
 have h:=Z4 base hG ov zs (.slice bb bh.length bc) cb cc l p x hS.yL hS.K2 hx MV (jL (hS.len hK) xE)
 refine((h.under (B:=B) (qK _ _ _ _ hs))).post ?_
 rintro v O' ⟨A',rfl,uz,uA,rfl,rfl⟩
 exact⟨_,qL _ _ _,uz,uA,yK l x,F,F,F8 l x,hS.add hx MV⟩
theorem S9 (base:World) [dE Tryz.prog base] (ob:Nat) (lb:Option Addr) (lc:Nat) (cv fv:Value) (ls:List Lf) (ks:List LK) (ho:ll base ob lb lc cv fv ls ks) (vs:Nat) (hG:iw ls vs) {K:Nat} (hK:qy ls K) (xE:K<1099511627776) (zs:Nat) (bb:Option Addr) (bc mm:Nat) (bh:List Nat) (hb:pO ls bh) (k:Nat) (hk:k<ls.length) (r:OB) (vZ:fV ls ls.length r.o) (f:Nat) (hE: ∀j∈(lf ls k).fo,qJ base 109 [(dW (aD ob) 0),(.pointer (aD zs)),vI ((j:Nat):Int),(.slice r.b r.o.length r.c)] zs bb bc mm bh ls r (fK ls f bh j r.o)) (cb:Option Addr) (cc:Nat) (l:List CR) (p:List OB) (hS:ly ls l p) (DQ:mg p r):
  bW Tryz.prog base 115 [(dW (aD ob) 0),(.pointer (aD zs)),vI ((k:Nat):Int),(.slice r.b r.o.length r.c)] ([oI zs 122 [(.slice bb bh.length bc),(.slice cb l.length cc)],aq cb cc 169 3 (dt l),aq bb mm 3 1 (bS bh)]++gg 173 p) (fun v O'=> ∃uz uA l' p',v=.tuple #[]∧O'=[oI zs 122 [(.slice bb bh.length bc),(.slice uz l'.length uA)],aq uz uA 169 3 (dt l'),aq bb mm 3 1 (bS bh)]++gg 173 p'∧l'.map CR.cf=(gy ls (f+1) bh k r.o).foldl add (l.map CR.cf)∧ly ls l' p'∧(∀x∈p,x∈p')):=by
 refine aF func115 F ntmps115 F ?_
 have IS:=hG.YL _ (ky hk)
 refine aM (ai (ah F (ad (a8 F) (ad (cy gA F gD F F (aL ho.bx) (by first|omega|(simp;done)|(simp;omega)|(simp_all;done)|(simp_all;omega))) (ad (de fB F F (aL ho.bx) F) (ah F (ad (dT (i:=k) fB fe F F (aL ho.rw) hk (by rw[dS ho.kl];omega)) (ad (cy iz F cV F F (aL ho.rw) (by rw[dS ho.kl];omega)) (ad (de cL F F (aL ho.rw) (qI ho.kl hk 5 F F)) (ad (cQ cL F) (ah F (ae (aU ?_)))))))))))))
 let eP:Lx.Item:=aq bb mm 3 1 (bS bh)
 refine dO (fun(i:Nat) ρ O=> ∃(Qu:Option Addr) (Qv:Nat) (l2:List CR) (p2:List OB),O=([oI zs 122 [(.slice bb bh.length bc),(.slice Qu l2.length Qv)],aq Qu Qv 169 3 (dt l2),eP]++(gg 173 p2))∧i≤(lf ls k).fo.length∧l2.map CR.cf=(((lf ls k).fo.take i).flatMap fun j=>fK ls f bh j r.o).foldl add (l.map CR.cf)∧ly ls l2 p2∧(∀x∈p,x∈p2)∧dv [(0,(dW (aD ob) 0)),(1,(.pointer (aD zs))),(2,vI ((k:Nat):Int)),(3,(.slice r.b r.o.length r.c)),(17,(.slice (lk ks k).b ((lf ls k).fo.length) ((lk ks k).c))),(18,vI ((lf ls k).fo.length:Int)),(19,vI ((i:Nat):Int))] ρ) (fun i=>(lf ls k).fo.length-i) 0 ?_ ?_
 ·exact⟨cb,cc,l,p,F,bn _,F,hS,fun x hx=>hx,(.of F)⟩
 rintro i ρ O ⟨Qu,Qv,l2,p2,rfl,hi,BI,U3,zl,hH⟩
 obtain⟨gF,rfl⟩:=hH.elim
 clear hH
 refine ai (ad (cT F F) (ae (aM (aP F (fun hc=>?_) (fun hc=>?_)))))
 ·have xF:i<(lf ls k).fo.length:=by omega
  refine aE (aM (aU (ai (ad (dU (i:=i) cL bj F F (aL (ho.fo _ hk)) xF (by rw[ar];exact xF)) (ad (de dP F F (aL (ho.fo _ hk)) (ij xF)) (aj F (ae (a7 (ah F (ah F (ah F (ah F ?_))))))))))))
  have tp:=hE (lf ls k).fo[i] (aQ xF) Qu Qv l2 p2 U3 (DQ.mono zl)
  refine ao F (bl K3 tp F ?_)
  clear tp
  rintro vr O' ⟨Oy,Oz,l3,p3,rfl,rfl,OA,IT,DL⟩
  refine ae (a7 (ad (dy (a:=i) (b:=1) F F (by omega)) (ah F (ae ?_))))
  exact⟨i+1,by omega,_,cj (aZ _),Oy,Oz,l3,p3,F,by omega,by rw[aH xF,List.flatMap_append,cO,←BI,OA];simp,IT,fun x hx=>DL x (zl x hx),(.of F)⟩
 have Qw: ¬i<(lf ls k).fo.length:=by omega
 refine cK ?_
 refine ai (ah F (ad (a8 F) (ad (cy gA F gD F F (aL ho.bx) (by first|omega|(simp;done)|(simp;omega)|(simp_all;done)|(simp_all;omega))) (ad (de fB F F (aL ho.bx) F) (ah F (ad (dT (i:=k) fB fe F F (aL ho.rw) hk (by rw[dS ho.kl];omega)) (ad (cy iz F fx F F (aL ho.rw) (by rw[dS ho.kl];omega)) (ad (de AG F F (aL ho.rw) (qI ho.kl hk 6 F F)) (ae (T.cond F (fun hc=>?_) (fun hc=>?_)))))))))))
 ·have JD:(lf ls k).la=true:=hc
  refine a7 (ah F (ah F (ah F (ad (cE (cs:=[vI (-1),vI 0,(.slice r.b r.o.length r.c)]) AY jq (by kernel_rfl)) ?_))))
  have KO:=S8 base hG hK xE (dW (aD ob) 0) zs bb bc bh [eP] Qu Qv l2 p2 ⟨-1,0,r⟩ U3 (.inl ⟨F,F,vZ⟩) (DQ.mono zl) (O:=[oI zs 122 [(.slice bb bh.length bc),(.slice Qu l2.length Qv)],aq Qu Qv 169 3 (dt l2),eP]) (by exact Sub.rf)
  refine ao F (bl EK KO F ?_)
  clear KO
  rintro vr O' ⟨CT,CU,l4,rfl,rfl,S_,Ta⟩
  refine ae (aA ?_)
  refine qZ.zero Tryz.results115 ?_
  have we:i=(lf ls k).fo.length:=by omega
  subst we
  rw[List.take_length]at BI
  have e9:gy ls (f+1) bh k r.o=((lf ls k).fo.flatMap fun j=>fK ls f bh j r.o)++[⟨-1,0,r.o⟩]:=by unfold gy;rw[aO JD]
  exact⟨_,cj (aZ _),CT,CU,l4,p2,F,F,by rw[e9,cO,←BI,S_];rfl,Ta,zl⟩
 have JD: ¬(lf ls k).la=true:=by rw[hc];simp
 refine aE (aA ?_)
 refine qZ.zero Tryz.results115 ?_
 have we:i=(lf ls k).fo.length:=by omega
 subst we
 rw[List.take_length]at BI
 have e9:gy ls (f+1) bh k r.o=((lf ls k).fo.flatMap fun j=>fK ls f bh j r.o)++[]:=by unfold gy;rw[az JD]
 exact⟨_,cj (aZ _),Qu,Qv,l2,p2,F,F,by rw[e9,c7,BI],U3,zl⟩
def F9 (l:Lf) (q:LK):List Value:=[v8 l.op,vI l.d.vars,vI ((l.d.start.toNat:Nat):Int),.slice q.k.nb l.d.next.length q.k.nc,.slice q.k.fb l.d.aY.length q.k.fc,.slice q.b l.fo.length q.c,.bool l.la]
theorem oJ {ls:List Lf} {ks:List LK} {k:Nat} (hk:ks.length=ls.length) (h:k<ls.length) (h0:0≤(lf ls k).d.start): ∀j (hj:j<(F9 (lf ls k) (lk ks k)).length),(dj ls ks)[k*7+j]? =some (F9 (lf ls k) (lk ks k))[j]:=fun j hj=>by
 have e:F9 (lf ls k) (lk ks k)=kI (lf ls k) (lk ks k):=by unfold F9;rw[cR h0];rfl
 simp only[e]at hj⊢
 exact xD hk h j hj
theorem lR {l:List Nat} {i:Nat} (h:i<l.length):(bS l)[i]? =some (vI ((l.getD i 0:Nat):Int)):=by
 rw[ij h,av,ap h];rfl
theorem Tb (base:World) [dE Tryz.prog base] (ob:Nat) (lb:Option Addr) (lc:Nat) (cv fv:Value) (ls:List Lf) (ks:List LK) (ho:ll base ob lb lc cv fv ls ks) (vs:Nat) (hG:iw ls vs) {K:Nat} (hK:qy ls K) (xE:K<1099511627776) (zs:Nat) (bb:Option Addr) (bc mm:Nat) (bh:List Nat) (hb:pO ls bh) (k:Nat) (hk:k<ls.length) (H2:(lf ls k).op=9) (r:OB) (vZ:fV ls k r.o) (f:Nat) (hL: ∀r2:OB,fV ls (k+1) r2.o→qJ base 115 [(dW (aD ob) 0),(.pointer (aD zs)),vI ((k:Nat):Int),(.slice r2.b r2.o.length r2.c)] zs bb bc mm bh ls r2 (gy ls f bh k r2.o)) (cb:Option Addr) (cc:Nat) (l:List CR) (p:List OB) (hS:ly ls l p) (DQ:mg p r):
  bW Tryz.prog base 109 [(dW (aD ob) 0),(.pointer (aD zs)),vI ((k:Nat):Int),(.slice r.b r.o.length r.c)] ([oI zs 122 [(.slice bb bh.length bc),(.slice cb l.length cc)],aq cb cc 169 3 (dt l),aq bb mm 3 1 (bS bh)]++gg 173 p) (fun v O'=> ∃uz uA l' p',v=.tuple #[]∧O'=[oI zs 122 [(.slice bb bh.length bc),(.slice uz l'.length uA)],aq uz uA 169 3 (dt l'),aq bb mm 3 1 (bS bh)]++gg 173 p'∧l'.map CR.cf=(fK ls (f+1) bh k r.o).foldl add (l.map CR.cf)∧ly ls l' p'∧(∀x∈p,x∈p')):=by
 refine aF func109 F ntmps109 F ?_
 have hv:=hG.kg hk
 have Ar:=eE hv.toVal
 have Qy:k<bh.length:=by rw[hb.len];exact hk
 have WS:=hb.lt k hk
 have OC:fV ls (k+1) r.o:=vZ.mono (Nat.le_succ k)
 refine ai (ah F (ad (a8 F) (ad (cy gA F gD F F (aL ho.bx) (by first|omega|(simp;done)|(simp;omega)|(simp_all;done)|(simp_all;omega))) (ad (de fB F F (aL ho.bx) F) (ah F (ad (dT (i:=k) fB fe F F (aL ho.rw) hk (by rw[dS ho.kl];omega)) (ad (eO (vs:=[v8 ((lf ls k).op),vI (lf ls k).d.vars,vI (((lf ls k).d.start.toNat:Nat):Int),(.slice (lk ks k).k.nb ((lf ls k).d.next.length) ((lk ks k).k.nc)),(.slice (lk ks k).k.fb ((lf ls k).d.aY.length) ((lk ks k).k.fc)),(.slice (lk ks k).b ((lf ls k).fo.length) ((lk ks k).c)),.bool (lf ls k).la]) iz F fe F F (br _) (aL ho.rw) (oJ ho.kl hk hv.s0)) (ao F (bs fe F (fun z1=>?_))))))))))
 refine ao F (bN (vs:=[v8 ((lf ls k).op),vI (lf ls k).d.vars,vI (((lf ls k).d.start.toNat:Nat):Int),(.slice (lk ks k).k.nb ((lf ls k).d.next.length) ((lk ks k).k.nc)),(.slice (lk ks k).k.fb ((lf ls k).d.aY.length) ((lk ks k).k.fc)),(.slice (lk ks k).b ((lf ls k).fo.length) ((lk ks k).c)),.bool (lf ls k).la]) 0 fe F F F F ?_)
 refine ae (aU (ai (ad (a_ iz F du F F) (ad (bi 0 fA F F F F) (ad (aB (bJ F F) (ay (by omega))) (aj F (ae ?_)))))))
 refine bO F ?_
 refine a7 (ah F (ah F (ah F (ah F (ah F (ah F (ad (a_ iz F bL F F) (ad (a_ cZ F bj F F) (ad (bi 0 dP F F F F) (ad (s7 (cs:=[vI ((k:Nat):Int),vI (((lf ls k).d.start.toNat:Nat):Int)]) ke bj gP (by kernel_rfl)) ?_))))))))))
 have xr:=fun(w1:World) (hI:Inv base ([oI z1 118 [v8 ((lf ls k).op),vI (lf ls k).d.vars,vI (((lf ls k).d.start.toNat:Nat):Int),(.slice (lk ks k).k.nb ((lf ls k).d.next.length) ((lk ks k).k.nc)),(.slice (lk ks k).k.fb ((lf ls k).d.aY.length) ((lk ks k).k.fc)),(.slice (lk ks k).b ((lf ls k).fo.length) ((lk ks k).c)),.bool (lf ls k).la],oI zs 122 [(.slice bb bh.length bc),(.slice cb l.length cc)],aq cb cc 169 3 (dt l),aq bb mm 3 1 (bS bh)]++(gg 173 p)) w1)=>(haveI:=et hI;WR w1 ob lb lc cv fv ls ks (hI.out ho) vs hG r (mg.sl hI (fun it fI=>am _ fI) DQ) (k,(lf ls k).d.start.toNat) k vZ (bF _) hk Ar)
 refine ao F (bl K4 (aX xr) F ?_)
 clear xr
 rintro vr O' ⟨N,rfl,pl,r2,rfl,rfl,Tc,CV⟩
 have hg2:fV ls (k+1) r2.o:=by rw[Tc];exact uB (x:=(k,_)) vZ (bF _) Ar
 have Z5:mg (pl++p) r2:=by
  rcases CV with⟨rfl,rfl⟩|rfl
  ·exact DQ.mono fun x hx=>by simpa using hx
  ·exact .inl (by simp)
 refine dX (O':=([oI z1 118 [v8 ((lf ls k).op),vI (lf ls k).d.vars,vI (((lf ls k).d.start.toNat:Nat):Int),(.slice (lk ks k).k.nb ((lf ls k).d.next.length) ((lk ks k).k.nc)),(.slice (lk ks k).k.fb ((lf ls k).d.aY.length) ((lk ks k).k.fc)),(.slice (lk ks k).b ((lf ls k).fo.length) ((lk ks k).c)),.bool (lf ls k).la],oI zs 122 [(.slice bb bh.length bc),(.slice cb l.length cc)],aq cb cc 169 3 (dt l),aq bb mm 3 1 (bS bh)]++((gg 173 pl)++(gg 173 p)))) (by exact fL [] _ (gg 173 pl) (gg 173 p)) ?_
 have WT:=bW.sub (O':=[oI zs 122 [(.slice bb bh.length bc),(.slice cb l.length cc)],aq cb cc 169 3 (dt l),aq bb mm 3 1 (bS bh)]++gg 173 (pl++p)) (O:=([oI z1 118 [v8 ((lf ls k).op),vI (lf ls k).d.vars,vI (((lf ls k).d.start.toNat:Nat):Int),(.slice (lk ks k).k.nb ((lf ls k).d.next.length) ((lk ks k).k.nc)),(.slice (lk ks k).k.fb ((lf ls k).d.aY.length) ((lk ks k).k.fc)),(.slice (lk ks k).b ((lf ls k).fo.length) ((lk ks k).c)),.bool (lf ls k).la],oI zs 122 [(.slice bb bh.length bc),(.slice cb l.length cc)],aq cb cc 169 3 (dt l),aq bb mm 3 1 (bS bh)]++((gg 173 pl)++(gg 173 p)))) (by rw[CW];exact(by exact Sub.d (.k (.k (.k .rf))))) (hL r2 hg2 cb cc l (pl++p) (hS.mono fun x hx=>am _ hx) Z5)
 refine ao F (bl AZ WT F ?_)
 clear WT
 rintro vr O' ⟨Oy,Oz,l3,p3,rfl,rfl,OA,IT,DL⟩
 refine ae (aA ?_)
 refine qZ.zero Tryz.results109 ?_
 exact⟨_,cj (aZ _),Oy,Oz,l3,p3,F,F,by rw[OA,Tc];unfold fK;rw[aO H2],IT,fun x hx=>DL x (am _ hx)⟩
theorem Td (base:World) [dE Tryz.prog base] (ob:Nat) (lb:Option Addr) (lc:Nat) (cv fv:Value) (ls:List Lf) (ks:List LK) (ho:ll base ob lb lc cv fv ls ks) (vs:Nat) (hG:iw ls vs) {K:Nat} (hK:qy ls K) (xE:K<1099511627776) (zs:Nat) (bb:Option Addr) (bc mm:Nat) (bh:List Nat) (hb:pO ls bh) (k:Nat) (hk:k<ls.length) (H2:(lf ls k).op=10) (r:OB) (vZ:fV ls k r.o) (f:Nat) (hL: ∀r2:OB,fV ls (k+1) r2.o→qJ base 115 [(dW (aD ob) 0),(.pointer (aD zs)),vI ((k:Nat):Int),(.slice r2.b r2.o.length r2.c)] zs bb bc mm bh ls r2 (gy ls f bh k r2.o)) (cb:Option Addr) (cc:Nat) (l:List CR) (p:List OB) (hS:ly ls l p) (DQ:mg p r):
  bW Tryz.prog base 109 [(dW (aD ob) 0),(.pointer (aD zs)),vI ((k:Nat):Int),(.slice r.b r.o.length r.c)] ([oI zs 122 [(.slice bb bh.length bc),(.slice cb l.length cc)],aq cb cc 169 3 (dt l),aq bb mm 3 1 (bS bh)]++gg 173 p) (fun v O'=> ∃uz uA l' p',v=.tuple #[]∧O'=[oI zs 122 [(.slice bb bh.length bc),(.slice uz l'.length uA)],aq uz uA 169 3 (dt l'),aq bb mm 3 1 (bS bh)]++gg 173 p'∧l'.map CR.cf=(fK ls (f+1) bh k r.o).foldl add (l.map CR.cf)∧ly ls l' p'∧(∀x∈p,x∈p')):=by
 refine aF func109 F ntmps109 F ?_
 have hv:=hG.kg hk
 have Ar:=eE hv.toVal
 have Qy:k<bh.length:=by rw[hb.len];exact hk
 have WS:=hb.lt k hk
 have OC:fV ls (k+1) r.o:=vZ.mono (Nat.le_succ k)
 refine ai (ah F (ad (a8 F) (ad (cy gA F gD F F (aL ho.bx) (by first|omega|(simp;done)|(simp;omega)|(simp_all;done)|(simp_all;omega))) (ad (de fB F F (aL ho.bx) F) (ah F (ad (dT (i:=k) fB fe F F (aL ho.rw) hk (by rw[dS ho.kl];omega)) (ad (eO (vs:=[v8 ((lf ls k).op),vI (lf ls k).d.vars,vI (((lf ls k).d.start.toNat:Nat):Int),(.slice (lk ks k).k.nb ((lf ls k).d.next.length) ((lk ks k).k.nc)),(.slice (lk ks k).k.fb ((lf ls k).d.aY.length) ((lk ks k).k.fc)),(.slice (lk ks k).b ((lf ls k).fo.length) ((lk ks k).c)),.bool (lf ls k).la]) iz F fe F F (br _) (aL ho.rw) (oJ ho.kl hk hv.s0)) (ao F (bs fe F (fun z1=>?_))))))))))
 refine ao F (bN (vs:=[v8 ((lf ls k).op),vI (lf ls k).d.vars,vI (((lf ls k).d.start.toNat:Nat):Int),(.slice (lk ks k).k.nb ((lf ls k).d.next.length) ((lk ks k).k.nc)),(.slice (lk ks k).k.fb ((lf ls k).d.aY.length) ((lk ks k).k.fc)),(.slice (lk ks k).b ((lf ls k).fo.length) ((lk ks k).c)),.bool (lf ls k).la]) 0 fe F F F F ?_)
 refine ae (aU (ai (ad (a_ iz F du F F) (ad (bi 0 fA F F F F) (ad (aB (bJ F F) (ak (by omega))) (aj F (ae (a6 F (aM ?_)))))))))
 refine fD [(0,0),(1,0),(2,0),(3,0),(4,0),(5,0),(6,0),(7,0),(8,0),(9,0),(10,0),(11,0),(12,0),(13,0),(14,0),(15,0),(16,0),(17,0)] ?_
 refine au F (a_ iz F du F F) (au F (bi 0 fA F F F F) (au F (aB (bJ F F) (ay (by omega))) (au F (aN F) ?_)))
 refine bu F F F (a_ iz F bL F F) ?_
 refine bu F F F (a_ cZ F dA F F) ?_
 refine bu F F F (bi 0 eB F F F F) ?_
 refine bu F F F (aN F) ?_
 refine bu F F F (a8 F) ?_
 refine bu F F F (a_ mb F cV F F) ?_
 refine bu F F F (bi 1 cL F F F F) ?_
 refine bu F F F (aN F) ?_
 refine bu F F F (dU (i:=k) cL bj F F (dR (mG 3 F)) Qy (by rw[ar];exact Qy)) ?_
 refine bu F F F (de dP F F (dR (mG 3 F)) (lR Qy)) ?_
 refine bu F F F (dU (i:=(bh.getD k 0)) eB fx F F (aL (ho.dk _ hk).aY) (by rw[hv.fin];exact WS) (by rw[ar,hv.fin];exact WS)) ?_
 refine bu F F F (de AG F F (aL (ho.dk _ hk).aY) (o5 hv WS)) ?_
 refine au F (cA F F) (au F (cx F) ?_)
 refine cw ?_
 refine T.cond F (fun hc=>?_) (fun hc=>?_)
 ·have xG:dr (lf ls k).d (bh.getD k 0)=true:=hc
  refine a7 (ah F (ah F (ah F (ah F ?_))))
  have Je:=bW.sub (O':=[oI zs 122 [(.slice bb bh.length bc),(.slice cb l.length cc)],aq cb cc 169 3 (dt l),aq bb mm 3 1 (bS bh)]++gg 173 p) (O:=([oI z1 118 [v8 ((lf ls k).op),vI (lf ls k).d.vars,vI (((lf ls k).d.start.toNat:Nat):Int),(.slice (lk ks k).k.nb ((lf ls k).d.next.length) ((lk ks k).k.nc)),(.slice (lk ks k).k.fb ((lf ls k).d.aY.length) ((lk ks k).k.fc)),(.slice (lk ks k).b ((lf ls k).fo.length) ((lk ks k).c)),.bool (lf ls k).la],oI zs 122 [(.slice bb bh.length bc),(.slice cb l.length cc)],aq cb cc 169 3 (dt l),aq bb mm 3 1 (bS bh)]++(gg 173 p))) (by exact(by exact Sub.d (.k (.k (.k .rf))))) (hL r OC cb cc l p hS DQ)
  refine ao F (bl AZ Je F ?_)
  clear Je
  rintro vr O' ⟨Oy,Oz,l3,p3,rfl,rfl,OA,IT,DL⟩
  refine ae (aA ?_)
  refine qZ.zero Tryz.results109 ?_
  exact⟨_,cj (aZ _),Oy,Oz,l3,p3,F,F,by rw[OA];unfold fK;rw[az (by omega),aO H2,aO xG],IT,DL⟩
 have xG: ¬dr (lf ls k).d (bh.getD k 0)=true:=by rw[hc];simp
 refine ai (ad (a_ iz F du F F) (ad (bi 0 fA F F F F) (ad (aB (bJ F F) (ak (by omega))) (aj F (ae (a6 F (aE (aA ?_))))))))
 refine qZ.zero Tryz.results109 ?_
 exact⟨[oI zs 122 [(.slice bb bh.length bc),(.slice cb l.length cc)],aq cb cc 169 3 (dt l),aq bb mm 3 1 (bS bh)]++gg 173 p,(by exact Sub.d (.k (.k (.k .rf)))),cb,cc,l,p,F,F,by unfold fK;rw[az (by omega),aO H2,az xG];rfl,hS,fun x hx=>hx⟩
theorem OD (base:World) [dE Tryz.prog base] (ob:Nat) (lb:Option Addr) (lc:Nat) (cv fv:Value) (ls:List Lf) (ks:List LK) (ho:ll base ob lb lc cv fv ls ks) (vs:Nat) (hG:iw ls vs) {K:Nat} (hK:qy ls K) (xE:K<1099511627776) (zs:Nat) (bb:Option Addr) (bc mm:Nat) (bh:List Nat) (hb:pO ls bh) (k:Nat) (hk:k<ls.length) (H2:(lf ls k).op=0) (r:OB) (vZ:fV ls k r.o) (f:Nat) (hL: ∀r2:OB,fV ls (k+1) r2.o→qJ base 115 [(dW (aD ob) 0),(.pointer (aD zs)),vI ((k:Nat):Int),(.slice r2.b r2.o.length r2.c)] zs bb bc mm bh ls r2 (gy ls f bh k r2.o)) (cb:Option Addr) (cc:Nat) (l:List CR) (p:List OB) (hS:ly ls l p) (DQ:mg p r):
  bW Tryz.prog base 109 [(dW (aD ob) 0),(.pointer (aD zs)),vI ((k:Nat):Int),(.slice r.b r.o.length r.c)] ([oI zs 122 [(.slice bb bh.length bc),(.slice cb l.length cc)],aq cb cc 169 3 (dt l),aq bb mm 3 1 (bS bh)]++gg 173 p) (fun v O'=> ∃uz uA l' p',v=.tuple #[]∧O'=[oI zs 122 [(.slice bb bh.length bc),(.slice uz l'.length uA)],aq uz uA 169 3 (dt l'),aq bb mm 3 1 (bS bh)]++gg 173 p'∧l'.map CR.cf=(fK ls (f+1) bh k r.o).foldl add (l.map CR.cf)∧ly ls l' p'∧(∀x∈p,x∈p')):=by
 refine aF func109 F ntmps109 F ?_
 have hv:=hG.kg hk
 have Ar:=eE hv.toVal
 have Qy:k<bh.length:=by rw[hb.len];exact hk
 have WS:=hb.lt k hk
 have OC:fV ls (k+1) r.o:=vZ.mono (Nat.le_succ k)
 refine ai (ah F (ad (a8 F) (ad (cy gA F gD F F (aL ho.bx) (by first|omega|(simp;done)|(simp;omega)|(simp_all;done)|(simp_all;omega))) (ad (de fB F F (aL ho.bx) F) (ah F (ad (dT (i:=k) fB fe F F (aL ho.rw) hk (by rw[dS ho.kl];omega)) (ad (eO (vs:=[v8 ((lf ls k).op),vI (lf ls k).d.vars,vI (((lf ls k).d.start.toNat:Nat):Int),(.slice (lk ks k).k.nb ((lf ls k).d.next.length) ((lk ks k).k.nc)),(.slice (lk ks k).k.fb ((lf ls k).d.aY.length) ((lk ks k).k.fc)),(.slice (lk ks k).b ((lf ls k).fo.length) ((lk ks k).c)),.bool (lf ls k).la]) iz F fe F F (br _) (aL ho.rw) (oJ ho.kl hk hv.s0)) (ao F (bs fe F (fun z1=>?_))))))))))
 refine ao F (bN (vs:=[v8 ((lf ls k).op),vI (lf ls k).d.vars,vI (((lf ls k).d.start.toNat:Nat):Int),(.slice (lk ks k).k.nb ((lf ls k).d.next.length) ((lk ks k).k.nc)),(.slice (lk ks k).k.fb ((lf ls k).d.aY.length) ((lk ks k).k.fc)),(.slice (lk ks k).b ((lf ls k).fo.length) ((lk ks k).c)),.bool (lf ls k).la]) 0 fe F F F F ?_)
 refine ae (aU (ai (ad (a_ iz F du F F) (ad (bi 0 fA F F F F) (ad (aB (bJ F F) (ak (by omega))) (aj F (ae (a6 F (aM ?_)))))))))
 refine fD [(0,0),(1,0),(2,0),(3,0),(4,0),(5,0),(6,0),(7,0),(8,0),(9,0),(10,0),(11,0),(12,0),(13,0),(14,0),(15,0),(16,0),(17,0)] ?_
 refine au F (a_ iz F du F F) (au F (bi 0 fA F F F F) (au F (aB (bJ F F) (ak (by omega))) (au F (aN F) (bM F F F (bM F F F (bM F F F (bM F F F (bM F F F (bM F F F (bM F F F ?_))))))))))
 refine bM F F F (bM F F F (bM F F F (bM F F F (bM F F F (au F (cg F F) (au F (cx F) ?_))))))
 refine cw ?_
 refine a6 F (ai (ad (a_ iz F du F F) (ad (bi 0 fA F F F F) (ad (aB (bJ F F) (ay (by omega))) (aj F (ae ?_))))))
 refine bO F ?_
 refine ai (ah F (ah F (ah F (ad (a_ iz F bL F F) (ad (a_ cZ F bj F F) (ad (bi 0 dP F F F F) (ah F (ad (cE (cs:=[vI ((k:Nat):Int),vI (((lf ls k).d.start.toNat:Nat):Int),(.slice r.b r.o.length r.c)]) AY jq (by kernel_rfl)) ?_))))))))
 have KS:=S8 base hG hK xE (dW (aD ob) 0) zs bb bc bh [oI z1 118 [v8 ((lf ls k).op),vI (lf ls k).d.vars,vI (((lf ls k).d.start.toNat:Nat):Int),(.slice (lk ks k).k.nb ((lf ls k).d.next.length) ((lk ks k).k.nc)),(.slice (lk ks k).k.fb ((lf ls k).d.aY.length) ((lk ks k).k.fc)),(.slice (lk ks k).b ((lf ls k).fo.length) ((lk ks k).c)),.bool (lf ls k).la],aq bb mm 3 1 (bS bh)] cb cc l p ⟨(k:Int),(lf ls k).d.start.toNat,r⟩ hS (.inr ⟨k,F,hk,Ar,vZ⟩) DQ (O:=[oI z1 118 [v8 ((lf ls k).op),vI (lf ls k).d.vars,vI (((lf ls k).d.start.toNat:Nat):Int),(.slice (lk ks k).k.nb ((lf ls k).d.next.length) ((lk ks k).k.nc)),(.slice (lk ks k).k.fb ((lf ls k).d.aY.length) ((lk ks k).k.fc)),(.slice (lk ks k).b ((lf ls k).fo.length) ((lk ks k).c)),.bool (lf ls k).la],oI zs 122 [(.slice bb bh.length bc),(.slice cb l.length cc)],aq cb cc 169 3 (dt l),aq bb mm 3 1 (bS bh)]) (by exact Sub.ew [oI z1 118 [v8 ((lf ls k).op),vI (lf ls k).d.vars,vI (((lf ls k).d.start.toNat:Nat):Int),(.slice (lk ks k).k.nb ((lf ls k).d.next.length) ((lk ks k).k.nc)),(.slice (lk ks k).k.fb ((lf ls k).d.aY.length) ((lk ks k).k.fc)),(.slice (lk ks k).b ((lf ls k).fo.length) ((lk ks k).c)),.bool (lf ls k).la]] _ (.ew [oI z1 118 [v8 ((lf ls k).op),vI (lf ls k).d.vars,vI (((lf ls k).d.start.toNat:Nat):Int),(.slice (lk ks k).k.nb ((lf ls k).d.next.length) ((lk ks k).k.nc)),(.slice (lk ks k).k.fb ((lf ls k).d.aY.length) ((lk ks k).k.fc)),(.slice (lk ks k).b ((lf ls k).fo.length) ((lk ks k).c)),.bool (lf ls k).la]] _ (.k (.k .z))))
 refine ao F (bl EK KS F ?_)
 clear KS
 rintro vr O' ⟨CT,CU,l4,rfl,rfl,S_,Ta⟩
 refine ae (ai (ad (a_ iz F bL F F) (ad (a_ cZ F dA F F) (ad (bi 2 eB F F F F) (ad (a_ iz F bL F F) (ad (a_ cZ F bj F F) (ad (bi 2 dP F F F F) (ad (dU (i:=((lf ls k).d.start.toNat)) eB fx F F (aL (ho.dk _ hk).aY) (by rw[hv.fin];exact Ar) (by rw[ar,hv.fin];exact Ar)) (ad (de AG F F (aL (ho.dk _ hk).aY) (o5 hv Ar)) (ae (T.cond F (fun hc=>?_) (fun hc=>?_))))))))))))
 ·have xG:dr (lf ls k).d (lf ls k).d.start.toNat=true:=hc
  refine a7 (ah F (ah F (ah F (ah F ?_))))
  have WU:=bW.sub (O':=[oI zs 122 [(.slice bb bh.length bc),(.slice CT l4.length CU)],aq CT CU 169 3 (dt l4),aq bb mm 3 1 (bS bh)]++gg 173 p) (O:=([oI zs 122 [(.slice bb bh.length bc),(.slice CT l4.length CU)],aq CT CU 169 3 (dt l4),oI z1 118 [v8 ((lf ls k).op),vI (lf ls k).d.vars,vI (((lf ls k).d.start.toNat:Nat):Int),(.slice (lk ks k).k.nb ((lf ls k).d.next.length) ((lk ks k).k.nc)),(.slice (lk ks k).k.fb ((lf ls k).d.aY.length) ((lk ks k).k.fc)),(.slice (lk ks k).b ((lf ls k).fo.length) ((lk ks k).c)),.bool (lf ls k).la],aq bb mm 3 1 (bS bh)]++(gg 173 p))) (by exact(by exact Sub.k (.k (.d (.k .rf))))) (hL r OC CT CU l4 p Ta DQ)
  refine ao F (bl AZ WU F ?_)
  clear WU
  rintro vr O' ⟨Oy,Oz,l3,p3,rfl,rfl,OA,IT,DL⟩
  refine ae (aA ?_)
  refine qZ.zero Tryz.results109 ?_
  exact⟨_,cj (aZ _),Oy,Oz,l3,p3,F,F,by rw[OA,S_];unfold fK;rw[az (by omega),az (by omega),aO xG];rfl,IT,DL⟩
 have xG: ¬dr (lf ls k).d (lf ls k).d.start.toNat=true:=by rw[hc];simp
 refine aE (aA ?_)
 refine qZ.zero Tryz.results109 ?_
 exact⟨[oI zs 122 [(.slice bb bh.length bc),(.slice CT l4.length CU)],aq CT CU 169 3 (dt l4),aq bb mm 3 1 (bS bh)]++gg 173 p,(by exact Sub.k (.k (.d (.k .rf)))),CT,CU,l4,p,F,F,by rw[S_];unfold fK;rw[az (by omega),az (by omega),az xG];rfl,Ta,fun x hx=>hx⟩
theorem EL (base:World) [dE Tryz.prog base] (ob:Nat) (lb:Option Addr) (lc:Nat) (cv fv:Value) (ls:List Lf) (ks:List LK) (ho:ll base ob lb lc cv fv ls ks) (vs:Nat) (hG:iw ls vs) {K:Nat} (hK:qy ls K) (xE:K<1099511627776) (zs:Nat) (bb:Option Addr) (bc mm:Nat) (bh:List Nat) (hb:pO ls bh): ∀f:Nat,
  (∀(k:Nat) (r:OB),k<ls.length→2*(ls.length-k)≤f→fV ls k r.o→qJ base 109 [(dW (aD ob) 0),(.pointer (aD zs)),vI ((k:Nat):Int),(.slice r.b r.o.length r.c)] zs bb bc mm bh ls r (fK ls f bh k r.o))∧
  (∀(k:Nat) (r:OB),k<ls.length→2*(ls.length-k)≤f+1→fV ls (k+1) r.o→qJ base 115 [(dW (aD ob) 0),(.pointer (aD zs)),vI ((k:Nat):Int),(.slice r.b r.o.length r.c)] zs bb bc mm bh ls r (gy ls f bh k r.o))
 |0=>⟨fun k r hk hf=>absurd hf (by omega),fun k r hk hf=>absurd hf (by omega)⟩
 |f+1=>by
  obtain⟨h1,h2⟩:=EL base ob lb lc cv fv ls ks ho vs hG hK xE zs bb bc mm bh hb f
  refine⟨fun k r hk hf vZ=>?_,fun k r hk hf vZ=>?_⟩
  ·have hL: ∀r2:OB,fV ls (k+1) r2.o→qJ base 115 [(dW (aD ob) 0),(.pointer (aD zs)),vI ((k:Nat):Int),(.slice r2.b r2.o.length r2.c)] zs bb bc mm bh ls r2 (gy ls f bh k r2.o):=fun r2 Tc=>h2 k r2 hk (by omega) Tc
   intro cb cc l p hS DQ
   rcases hG.op _ (ky hk)with h|h|h
   ·exact OD base ob lb lc cv fv ls ks ho vs hG hK xE zs bb bc mm bh hb k hk h r vZ f hL cb cc l p hS DQ
   ·exact Tb base ob lb lc cv fv ls ks ho vs hG hK xE zs bb bc mm bh hb k hk h r vZ f hL cb cc l p hS DQ
   ·exact Td base ob lb lc cv fv ls ks ho vs hG hK xE zs bb bc mm bh hb k hk h r vZ f hL cb cc l p hS DQ
  ·intro cb cc l p hS DQ
   exact S9 base ob lb lc cv fv ls ks ho vs hG hK xE zs bb bc mm bh hb k hk r (vZ.mono hk) f (fun j hj=>h1 j r (hG.fo k hk j hj).2 (by have:=hG.fo k hk j hj;omega) (vZ.mono (hG.fo k hk j hj).1)) cb cc l p hS DQ
end Go.Proofs.YtgdbfideeeegmaaGreatDoor

namespace Go.Proofs.YtgdbfideeeegmaaGreatDoor
open Go.Lx Go.RowKit _root_.Go.Proofs.Tryz
theorem OM (w:World) [dE Tryz.prog w] (eb:Option Addr) (ec:Nat) (e:List dK) (hE:Sl w eb (bt e)) (wl:e.length≤64) (lF: ∀x∈e,x.p<256∧x.n<256) (v:Nat) (hv:v≤6):
  cH Tryz.prog 89 [.slice eb e.length ec,vN v] w fun r N=>(∃n,jW v e=.error n∧r=.tuple #[nS,vI (n:Int)]∧N=[])∨(∃fs b c,jW v e=.ok fs∧r=.tuple #[.slice b e.length c,vI 0]∧N=[aq b c 3 1 (bS fs)]):=by
 refine aF func89 F ntmps89 F ?_
 refine ai (aj F (aj F (ae (aM (ai (ah F (ad (cQ cX F) (ah F (ae (aU (T.eX 3 1 ?_)))))))))))
 refine dO (fun(i:Nat) ρ O=> ∃(fs:List Nat) (b:Option Addr) (c:Nat),O=[aq b c 3 1 (bS fs)]∧i≤e.length∧fs.length=i∧jW v (e.take i)=.ok fs∧(∀j,j<i→fs.getD j 0≤j)∧dv [(0,(.slice eb e.length ec)),(1,vN v),(4,(.slice b i c)),(10,(.slice eb e.length ec)),(11,vI (e.length:Int)),(12,vN i)] ρ) (fun i=>e.length-i) 0 ?_ ?_
 ·exact⟨[],none,0,F,bn _,F,F,fun j hj=>absurd hj (by omega),(.of F)⟩
 rintro i ρ O ⟨fs,b,c,rfl,hi,rL,nF,xG,hH⟩
 obtain⟨gF,rfl⟩:=hH.elim
 clear hH
 refine ai (ad (cT F F) (ae (aM (aP F (fun hc=>?_) (fun hc=>?_)))))
 ·have lE:i<e.length:=by omega
  have MV:=lF _ (aQ lE)
  refine aE (aM (aU (ai (ah F (ad (dT (i:=i) cX cm F F (aL hE) lE (by rw[bY];omega)) (ad (eO (vs:=e[i].cl) bU F cm F F (br _) (aL hE) (lK lE)) (ao F (bs cm F (fun z1=>?_)))))))))
  refine aj F (ao F (bN (vs:=e[i].cl) 0 cm F F F F ?_))
  refine ae (aM (ai (ad (eu 0 bU F cm F F F) (ah F ?_))))
  have qu:=fun(w1:World) (hI:Inv w [oI z1 72 e[i].cl,aq b c 3 1 (bS fs)] w1)=>(haveI:=et hI;Tp w1 e[i] v MV.1 MV.2 hv)
  refine ao F (bl Tq (aX qu) F ?_)
  clear qu
  rintro vr O' ⟨N,rfl,rfl,rfl⟩
  refine aj F (ae (ai (ah F (ad (dQ F F) (ae (aP F (fun hc=>?_) (fun hc=>?_)))))))
  ·have uY:gf v e[i]≠0:=by omega
   have vd:gf v e[i]≠0:=by omega
   refine ai (ah F (aj F (aj F (ae (aK (aA ?_))))))
   refine dl nS (vI (gf v e[i]:Int)) Tryz.results89 F F ?_
   have hs:gG v fs e[i]=.error (gf v e[i]):=by unfold gG;simp only[rL];rw[aO vd]
   exact⟨[],Sub.z,.inl ⟨_,jQ lE nF hs,F,F⟩⟩
  have wK: ¬gf v e[i]≠0:=by omega
  have vd: ¬gf v e[i]≠0:=by omega
  refine aE (ai (ah F (aj F (ae (aM (aM ?_))))))
  refine fD [(1,0),(2,0),(0,1),(3,2),(4,2)] ?_
  refine au F (a_ bU F du F F) (au F (bi 0 fA F F F F) ?_)
  have xx:=fun(w1:World) (hI:Inv w [oI z1 72 e[i].cl,aq b c 3 1 (bS fs)] w1)=>(haveI:=et hI;jP w1)
  refine cr F F (bl vo (aX xx) F ?_)
  clear xx
  rintro vr O' ⟨N,rfl,m,rfl,rfl⟩
  refine⟨by exact Sub.d (.k (.k .z)),?_⟩
  refine b_ F F (d_ F F (bK (kY (a:=e[i].op) rB jZ (gh.u8 fA) F F (mG 0 F)) (v':=(.agg #[vN (dH e[i].op),str (iq e[i].op).1,str (iq e[i].op).2.1,str (iq e[i].op).2.2])) (mK e[i].op)) ?_)
  refine b_ F F (d_ F F (q7 vS F dP F F F) ?_)
  refine cw ?_
  refine aU (ai ?_)
  refine ad (bJ F F) (aj F (ae (aP F (fun hc=>?_) (fun hc=>?_))))
  ·have Wv:dH e[i].op=1:=by omega
   have vO:dH e[i].op=1:=by omega
   refine aM (ai (ah F (ad (bJ F F) ?_)))
   by_cases Xp:((i:Nat):Int)=0
   ·refine ad (aB (aN F) (ay Xp)) ?_
    refine aV F F (aV F F (aV F F (aV F F (aV F F (ad (cA F F) (ae ?_))))))
    refine bO F ?_
    refine ai (aj F (aj F (ae (aK (aA ?_)))))
    refine dl nS (vI 8) Tryz.results89 F F ?_
    have hs:gG v fs e[i]=.error 8:=by unfold gG;simp only[rL];first|(rw[az vd,aO vO,aO (by omega)];done)|(rw[az vd,az vO,aO rG,aO (by omega)];done)
    exact⟨[],Sub.z,.inl ⟨8,jQ lE nF hs,F,F⟩⟩
   refine ad (aB (aN F) (ak Xp)) (aG F F (a_ bU F bj F F) (aG F F (bi 1 dP F F F F) (aG F F (aN F) (aG F F (bK (fH F F (by omega)) (v':=vN (i-1)) (ax (Value.int .i64) (by omega))) (aG F F (dQ F F) (ad (cg F F) (ae (aP F (fun hc=>?_) (fun hc=>?_)))))))))
   ·refine aM ?_
    refine a7 (aj F (aj F (ae (aK (aA ?_)))))
    refine dl nS (vI 8) Tryz.results89 F F ?_
    have hs:gG v fs e[i]=.error 8:=by unfold gG;simp only[rL];first|(rw[az vd,aO vO,aO (by omega)];done)|(rw[az vd,az vO,aO rG,aO (by omega)];done)
    exact⟨[],Sub.z,.inl ⟨8,jQ lE nF hs,F,F⟩⟩
   have P2:e[i].a=(((i-1):Nat):Int):=by omega
   have hfi:=xG (i-1) (by omega)
   refine aE (a7 (ah F (ah F (ad (bK (fH F F (by omega)) (v':=vN (i-1)) (ax (Value.int .i64) (by omega))) (ad (dU (i:=(i-1)) cL bj F F (dR (mG 2 F)) (by omega) (by rw[ar];omega)) (ad (de dP F F (dR (mG 2 F)) (lR (show i-1<fs.length by omega))) (aj F (ae (a7 (ah F (ah F (ao F (cN (v:=vN (fs.getD (i-1) 0)) cL bj F F F (fun z2=>?_))))))))))))))
   refine ao F (cW 3 cL cL bj F F F F (by rw[ar];omega) (by decide) (Src.row (j:=0) F (by simp)) (by simp[fa]) (by omega) (by decide) (by decide) (fun z3 kH=>?_))
   refine aj F (ae (a7 (ad (dy (a:=i) (b:=1) F F (by omega)) (ah F (ae ?_)))))
   have hs:gG v fs e[i]=.ok (fs.getD (i-1) 0):=by unfold gG;simp only[rL];rw[az vd,aO vO,az (by omega)]
   exact⟨i+1,by omega,[aq z3 kH 3 1 ((bS fs)++[vN (fs.getD (i-1) 0)])],(by exact Sub.d (.d (.d (.k .z)))),fs++[(fs.getD (i-1) 0)],z3,kH,by rw[show bS (fs++[(fs.getD (i-1) 0)])=bS fs++[vN (fs.getD (i-1) 0)]from bm],by omega,by simp[rL],qQ lE nF hs,rl rL xG (by omega),(.of F)⟩
  have Ww: ¬dH e[i].op=1:=by omega
  have vO: ¬dH e[i].op=1:=by omega
  refine ai (ad (bJ F F) (aj F (ae (aP F (fun hc=>?_) (fun hc=>?_)))))
  ·have acp:dH e[i].op=2:=by omega
   have rG:dH e[i].op=2:=by omega
   have aet:fs.getD (i-1) 0≤i:=by
    by_cases h9:i=0
    ·rw[List.length_eq_zero_iff.1 (show fs.length=0 by omega)];simp
    ·have:=xG (i-1) (by omega);omega
   refine aM (aM ?_)
   refine fD [(0,0),(1,0),(2,0),(3,0),(4,0),(5,0),(6,0),(7,0),(8,0),(9,0),(10,0),(11,0),(12,0),(13,0),(14,0),(15,0),(16,0),(17,0),(18,0),(19,0),(20,0),(21,0),(22,0),(23,0),(24,0),(25,0),(26,0),(27,0)] ?_
   refine au F (aN F) (au F (bJ F F) ?_)
   by_cases Xp:((i:Nat):Int)=0
   ·refine au F (aB (aN F) (ay Xp)) ?_
    refine bM F F F (bM F F F (bM F F F (bM F F F (bM F F F (au F (cA F F) (au F (aN F) (bM F F F (bM F F F ?_))))))))
    refine bM F F F (bM F F F (bM F F F (bM F F F (au F (cA F F) (au F (aN F) (bM F F F (bM F F F (bM F F F ?_))))))))
    refine bM F F F (bM F F F (bM F F F (bM F F F (bM F F F (bM F F F (au F (cA F F) ?_))))))
    refine cw ?_
    refine bO F ?_
    refine ai (aj F (aj F (ae (aK (aA ?_)))))
    refine dl nS (vI 8) Tryz.results89 F F ?_
    have hs:gG v fs e[i]=.error 8:=by unfold gG;simp only[rL];first|(rw[az vd,aO vO,aO (by omega)];done)|(rw[az vd,az vO,aO rG,aO (by omega)];done)
    exact⟨[],Sub.z,.inl ⟨8,jQ lE nF hs,F,F⟩⟩
   refine au F (aB (aN F) (ak Xp)) ?_
   refine bu F F F (a_ bU F bj F F) ?_
   refine bu F F F (bi 1 dP F F F F) ?_
   refine bu F F F (aN F) ?_
   refine bu F F F (bK (fH F F (by omega)) (v':=vN (i-1)) (ax (Value.int .i64) (by omega))) ?_
   refine bu F F F (dQ F F) ?_
   refine au F (cg F F) ?_
   by_cases Hr:e[i].b≠(((i-1):Nat):Int)
   ·refine au F (aB (aN F) (ay Hr)) ?_
    refine bM F F F (bM F F F (bM F F F (bM F F F (bM F F F (bM F F F (au F (cA F F) (au F (aN F) (bM F F F ?_))))))))
    refine bM F F F (bM F F F (bM F F F (bM F F F (bM F F F (bM F F F (bM F F F (bM F F F ?_)))))))
    refine au F (cA F F) ?_
    refine cw ?_
    refine bO F ?_
    refine ai (aj F (aj F (ae (aK (aA ?_)))))
    refine dl nS (vI 8) Tryz.results89 F F ?_
    have hs:gG v fs e[i]=.error 8:=by unfold gG;simp only[rL];first|(rw[az vd,aO vO,aO (by omega)];done)|(rw[az vd,az vO,aO rG,aO (by omega)];done)
    exact⟨[],Sub.z,.inl ⟨8,jQ lE nF hs,F,F⟩⟩
   refine au F (aB (aN F) (ak Hr)) ?_
   refine bu F F F (aN F) ?_
   refine bu F F F (aN F) ?_
   refine bu F F F (bK (fH F F (by omega)) (v':=vN (i-1)) (ax (Value.int .i64) (by omega))) ?_
   refine bu F F F (dU (i:=(i-1)) cL bj F F (dR (mG 2 F)) (by omega) (by rw[ar];omega)) ?_
   refine bu F F F (de dP F F (dR (mG 2 F)) (lR (show i-1<fs.length by omega))) ?_
   refine bu F F F (bJ F F) ?_
   refine au F (cg F F) ?_
   by_cases YO:((fs.getD (i-1) 0:Nat):Int)=0
   ·refine au F (aB (aN F) (ay YO)) ?_
    refine bM F F F (bM F F F (bM F F F (bM F F F (bM F F F (bM F F F (bM F F F (bM F F F ?_)))))))
    refine bM F F F (au F (cA F F) ?_)
    refine cw ?_
    refine bO F ?_
    refine ai (aj F (aj F (ae (aK (aA ?_)))))
    refine dl nS (vI 8) Tryz.results89 F F ?_
    have hs:gG v fs e[i]=.error 8:=by unfold gG;simp only[rL];first|(rw[az vd,aO vO,aO (by omega)];done)|(rw[az vd,az vO,aO rG,aO (by omega)];done)
    exact⟨[],Sub.z,.inl ⟨8,jQ lE nF hs,F,F⟩⟩
   refine au F (aB (aN F) (ak YO)) ?_
   refine bu F F F (a_ bU F bj F F) ?_
   refine bu F F F (bi 1 dP F F F F) ?_
   refine bu F F F (aN F) ?_
   refine bu F F F (aN F) ?_
   refine bu F F F (bK (fH F F (by omega)) (v':=vN (i-1)) (ax (Value.int .i64) (by omega))) ?_
   refine bu F F F (dU (i:=(i-1)) cL bj F F (dR (mG 2 F)) (by omega) (by rw[ar];omega)) ?_
   refine bu F F F (de dP F F (dR (mG 2 F)) (lR (show i-1<fs.length by omega))) ?_
   refine bu F F F (bK (fH F F (by omega)) (v':=vN (fs.getD (i-1) 0-1)) (ax (Value.int .i64) (by omega))) ?_
   refine bu F F F (dQ F F) ?_
   refine au F (cg F F) ?_
   refine cw ?_
   refine aP F (fun hc=>?_) (fun hc=>?_)
   ·refine aM ?_
    refine a7 (aj F (aj F (ae (aK (aA ?_)))))
    refine dl nS (vI 8) Tryz.results89 F F ?_
    have hs:gG v fs e[i]=.error 8:=by unfold gG;simp only[rL];first|(rw[az vd,aO vO,aO (by omega)];done)|(rw[az vd,az vO,aO rG,aO (by omega)];done)
    exact⟨[],Sub.z,.inl ⟨8,jQ lE nF hs,F,F⟩⟩
   have P2:e[i].a=(((fs.getD (i-1) 0-1):Nat):Int):=by omega
   have hfi:=xG (i-1) (by omega)
   have YP:=xG (fs.getD (i-1) 0-1) (by omega)
   refine aE (a7 (ah F (ad (a_ bU F bj F F) (ad (bK (bi 1 dP F F F F) (v':=vN (fs.getD (i-1) 0-1)) (by show Value.int _ e[i].a=_;rw[P2])) (ad (dU (i:=(fs.getD (i-1) 0-1)) cL bj F F (dR (mG 2 F)) (by omega) (by rw[ar];omega)) (ad (de dP F F (dR (mG 2 F)) (lR (show(fs.getD (i-1) 0-1)<fs.length by omega))) (aj F (ae (a7 (ah F (ah F (ao F (cN (v:=vN (fs.getD (fs.getD (i-1) 0-1) 0)) cL bj F F F (fun z5=>?_))))))))))))))
   refine ao F (cW 3 cL cL bj F F F F (by rw[ar];omega) (by decide) (Src.row (j:=0) F (by simp)) (by simp[fa]) (by omega) (by decide) (by decide) (fun z6 AC=>?_))
   refine aj F (ae (a7 (ad (dy (a:=i) (b:=1) F F (by omega)) (ah F (ae ?_)))))
   have hs:gG v fs e[i]=.ok (fs.getD (fs.getD (i-1) 0-1) 0):=by unfold gG;simp only[rL];rw[az vd,az vO,aO rG,az (by omega),P2,Int.toNat_natCast]
   exact⟨i+1,by omega,[aq z6 AC 3 1 ((bS fs)++[vN (fs.getD (fs.getD (i-1) 0-1) 0)])],(by exact Sub.d (.d (.d (.k .z)))),fs++[(fs.getD (fs.getD (i-1) 0-1) 0)],z6,AC,by rw[show bS (fs++[(fs.getD (fs.getD (i-1) 0-1) 0)])=bS fs++[vN (fs.getD (fs.getD (i-1) 0-1) 0)]from bm],by omega,by simp[rL],qQ lE nF hs,rl rL xG (by omega),(.of F)⟩
  have Xq: ¬dH e[i].op=2:=by omega
  have rG: ¬dH e[i].op=2:=by omega
  refine aE (a7 (ah F (ah F (ao F (cN (v:=vN i) cL bj F F F (fun z8=>?_))))))
  refine ao F (cW 3 cL cL bj F F F F (by rw[ar];omega) (by decide) (Src.row (j:=0) F (by simp)) (by simp[fa]) (by omega) (by decide) (by decide) (fun z9 ni=>?_))
  refine aj F (ae (a7 (ad (dy (a:=i) (b:=1) F F (by omega)) (ah F (ae ?_)))))
  have hs:gG v fs e[i]=.ok i:=by unfold gG;simp only[rL];rw[az vd,az vO,az rG]
  exact⟨i+1,by omega,[aq z9 ni 3 1 ((bS fs)++[vN i])],(by exact Sub.d (.d (.d (.k .z)))),fs++[i],z9,ni,by rw[show bS (fs++[i])=bS fs++[vN i]from bm],by omega,by simp[rL],qQ lE nF hs,rl rL xG (bF _),(.of F)⟩
 have JX: ¬i<e.length:=by omega
 refine cK ?_
 refine ai (ah F (aj F (aj F (ae (aK (aA ?_))))))
 refine dl (.slice b i c) (vI 0) Tryz.results89 F F ?_
 have we:i=e.length:=by omega
 subst we
 rw[List.take_length]at nF
 exact⟨[aq b c 3 1 (bS fs)],(by exact Sub.rf),.inr ⟨fs,b,c,nF,F,F⟩⟩
end Go.Proofs.YtgdbfideeeegmaaGreatDoor

namespace Go.Proofs.YtgdbfideeeegmaaGreatDoor
open Go.Lx Go.RowKit _root_.Go.Proofs.Tryz
theorem ON (w:World) [dE Tryz.prog w] (eb:Option Addr) (ec:Nat) (e:List dK) (hE:Sl w eb (bt e)) (z2 z8:Nat) (h2:Sl w (aD z2) [.slice eb e.length ec]) (h8:Sl w (aD z8) [(.func (.func 90) #[] #[(dW (aD z2) 0),(dW (aD z8) 0)])]) (i f:Nat) (fr:Bool) (hi:i<e.length) (FN:1≤dH e[i].op→ ∀w1 [dE Tryz.prog w1],Inv w [] w1→ ∀g:Bool,eK Tryz.prog w1 (.func (.func 90) #[] #[(dW (aD z2) 0),(dW (aD z8) 0)]) [vI e[i].a,.bool g] [] (fun v N=>v=.bool (mq e f e[i].a.toNat g)∧N=[])) (JZ:2≤dH e[i].op→ ∀w1 [dE Tryz.prog w1],Inv w [] w1→ ∀g:Bool,eK Tryz.prog w1 (.func (.func 90) #[] #[(dW (aD z2) 0),(dW (aD z8) 0)]) [vI e[i].b,.bool g] [] (fun v N=>v=.bool (mq e f e[i].b.toNat g)∧N=[])):
  cH Tryz.prog 90 [vN i,.bool fr,(dW (aD z2) 0),(dW (aD z8) 0)] w fun v N=>v=.bool (mq e (f+1) i fr)∧N=[]:=by
 refine aF func90 F ntmps90 F ?_
 refine ai (aj F (ae (ai (ad (de cX F F (aL h2) F) (ah F (ad (dT (i:=i) cX cm F F (aL hE) hi (by rw[bY];omega)) (ad (eO (vs:=e[i].cl) bU F cm F F (br _) (aL hE) (lK hi)) (ao F (bs cm F (fun z1=>?_))))))))))
 refine ao F (bN (vs:=e[i].cl) 0 cm F F F F ?_)
 refine ae ?_
 let eP:Lx.Item:=oI z1 72 e[i].cl
 refine gz (fun ρ O=>Sub [eP] O∧(¬((e[i].op=9∨e[i].op=10)∧fr=false))∧dv [(0,vN i),(1,.bool fr),(2,(dW (aD z2) 0)),(3,(dW (aD z8) 0)),(7,(.pointer (aD z1)))] ρ) ?_ ?_
 ·refine aM ?_
  refine a7 (ad (a_ bU F du F F) (ad (bi 0 fA F F F F) (ad (bJ F F) ?_)))
  by_cases h9:((e[i].op:Nat):Int)=9
  ·refine ad (aB (aN F) (ay h9)) ?_
   refine aV F F (aV F F (aV F F (ad (cA F F) (ah F (aG F F (aN F) (aG F F (jh F) (ad (cA F F) (ae (T.cond F (fun hc=>?_) (fun hc=>?_))))))))))
   ·refine aM ?_
    refine a7 (aj F (ae (aK (aA ?_))))
    refine aS (.bool false) Tryz.results90 F ?_
    exact⟨[],Sub.z,ax Value.bool (by rw[iH hi,aO ⟨by omega,by simpa using hc⟩]),F⟩
   refine aE ?_
   exact⟨(by exact Sub.rf),(fun h=>by rw[h.2]at hc;exact absurd hc (by decide)),(.of F)⟩
  refine ad (aB (aN F) (ak h9)) (aG F F (a_ bU F du F F) (aG F F (bi 0 fA F F F F) (aG F F (bJ F F) ?_)))
  by_cases EO:((e[i].op:Nat):Int)=10
  ·refine ad (aB (cg F F) (ay EO)) ?_
   refine ah F (aG F F (aN F) (aG F F (jh F) (ad (cA F F) (ae (T.cond F (fun hc=>?_) (fun hc=>?_))))))
   ·refine aM ?_
    refine a7 (aj F (ae (aK (aA ?_))))
    refine aS (.bool false) Tryz.results90 F ?_
    exact⟨[],Sub.z,ax Value.bool (by rw[iH hi,aO ⟨by omega,by simpa using hc⟩]),F⟩
   refine aE ?_
   exact⟨(by exact Sub.rf),(fun h=>by rw[h.2]at hc;exact absurd hc (by decide)),(.of F)⟩
  refine ad (aB (cg F F) (ak EO)) (ah F (aV F F (aV F F (ad (cg F F) (ae (a6 F (aE ?_)))))))
  exact⟨(by exact Sub.rf),(fun h=>absurd h.1 (by omega)),(.of F)⟩
 rintro ρ O ⟨hS,YQ,hH⟩
 obtain⟨gF,rfl⟩:=hH.elim
 clear hH
 refine dx hS ?_
 refine gz (fun ρ O=>Sub [eP] O∧dv [(0,vN i),(1,.bool (fr&&decide (e[i].op=4∨e[i].op=5))),(2,(dW (aD z2) 0)),(3,(dW (aD z8) 0)),(7,(.pointer (aD z1)))] ρ) ?_ ?_
 ·refine a7 ?_
  by_cases J0:fr=true
  ·refine ad (aB (aN F) (J0)) ?_
   refine ah F (aG F F (a_ bU F du F F) (aG F F (bi 0 fA F F F F) (aG F F (bJ F F) ?_)))
   by_cases h4:((e[i].op:Nat):Int)=4
   ·refine aG F F (aB (aN F) (ay h4)) ?_
    refine aV F F (aV F F (aV F F (aG F F (cA F F) (ad (cA F F) (aj F (ae ?_))))))
    exact⟨(by exact Sub.rf),⟨F,(ax Value.bool (by rw[J0,ay (show e[i].op=4∨e[i].op=5 by omega)];rfl)),F,F,F,trivial⟩⟩
   refine aG F F (aB (aN F) (ak h4)) (aG F F (a_ bU F du F F) (aG F F (bi 0 fA F F F F) (aG F F (bJ F F) (aG F F (cg F F) (ad (cA F F) (aj F (ae ?_)))))))
   exact⟨(by exact Sub.rf),⟨F,(ax Value.bool (by rw[J0,Bool.true_and];exact decide_eq_decide.2 (by omega))),F,F,F,trivial⟩⟩
  refine ad (aB (aN F) (Bool.eq_false_iff.2 J0)) (ah F (aV F F (aV F F (aV F F (aV F F (aV F F (aV F F (aV F F ?_))))))))
  refine aV F F (ad (cg F F) (aj F (ae ?_)))
  exact⟨(by exact Sub.rf),⟨F,(ax Value.bool (by rw[Bool.eq_false_iff.2 J0];rfl)),F,F,F,trivial⟩⟩
 rintro ρ O ⟨hS,hH⟩
 obtain⟨gF,rfl⟩:=hH.elim
 clear hH
 refine dx hS ?_
 refine aM ?_
 refine fD [(1,0),(2,0),(0,1),(3,2),(4,2),(5,2)] ?_
 refine au F (a_ bU F du F F) (au F (bi 0 fA F F F F) ?_)
 have Cl:=fun(w1:World) (hI:Inv w [eP] w1)=>(haveI:=et hI;jP w1)
 refine cr F F (bl vo (aX Cl) F ?_)
 clear Cl
 rintro vr O' ⟨N,rfl,m,rfl,rfl⟩
 refine⟨by exact Sub.d (.k .z),?_⟩
 refine b_ F F (d_ F F (bK (kY (a:=e[i].op) rB jZ (gh.u8 fA) F F (mG 0 F)) (v':=(.agg #[vN (dH e[i].op),str (iq e[i].op).1,str (iq e[i].op).2.1,str (iq e[i].op).2.2])) (mK e[i].op)) ?_)
 refine b_ F F (d_ F F (q7 vS F dP F F F) ?_)
 refine b_ F F (d_ F F (cx F) ?_)
 refine cw ?_
 refine ai (ah F (ad (cT F F) ?_))
 by_cases yo:((dH e[i].op:Nat):Int)<1
 ·refine ad (aB (aN F) (ay yo)) ?_
  refine aV F F (aV F F (aV F F (aV F F (aV F F (ad (cA F F) (ah F (aG F F (aN F) (aG F F (aB (cT F F) (ay (by omega))) ?_))))))))
  refine aG F F (aN F) (aV F F (aV F F (aV F F (aV F F (aV F F (aG F F (cA F F) (ad (cA F F) (aj F ?_))))))))
  refine ae (aK (aA ?_))
  refine aS (.bool true) Tryz.results90 F ?_
  exact⟨[],Sub.z,ax Value.bool (by rw[iH hi,az YQ,ay (show dH e[i].op<1 by omega),ay (show dH e[i].op<2 by omega)];rfl),F⟩
 refine ad (aB (aN F) (ak yo)) (aG F F (de Lj F F (aL h8) F) (aG F F (a_ bU F bj F F) (aG F F (bi 1 dP F F F F) (aG F F (aN F) ?_))))
 have Xr:=(ep (base:=w) (O:=[gT m,eP]) fun w1 hI=>haveI:=et hI;haveI:=et hI;FN (by omega) w1 hI.nD (fr&&decide (e[i].op=4∨e[i].op=5)))
 refine iD F F F (eN Xr F F ?_)
 clear Xr
 rintro vr O' ⟨N,rfl,rfl,rfl⟩
 refine ad (cg F F) ?_
 by_cases Xs:(mq e f e[i].a.toNat (fr&&decide (e[i].op=4∨e[i].op=5)))=true
 ·refine ad (aB (aN F) (Xs)) ?_
  refine aG F F (aN F) (aG F F (cT F F) ?_)
  by_cases n6:((dH e[i].op:Nat):Int)<2
  ·refine aG F F (aB (aN F) (ay n6)) ?_
   refine aV F F (aV F F (aV F F (aV F F (aV F F (aG F F (cA F F) (ad (cA F F) (aj F (ae (aK (aA ?_))))))))))
   refine aS (.bool true) Tryz.results90 F ?_
   exact⟨[],Sub.z,ax Value.bool (by rw[iH hi,az YQ,ak (show¬dH e[i].op<1 by omega),Xs,ay (show dH e[i].op<2 by omega)];rfl),F⟩
  refine aG F F (aB (aN F) (ak n6)) (aG F F (de Lj F F (aL h8) F) (aG F F (a_ bU F bj F F) (aG F F (bi 1 dP F F F F) (aG F F (aN F) ?_))))
  have Jf:=(ep (base:=w) (O:=[gT m,eP]) fun w1 hI=>haveI:=et hI;haveI:=et hI;JZ (by omega) w1 hI.nD (fr&&decide (e[i].op=4∨e[i].op=5)))
  refine iD F F F (eN Jf F F ?_)
  clear Jf
  rintro vr O' ⟨N,rfl,rfl,rfl⟩
  refine aG F F (cg F F) (ad (cA F F) (aj F (ae (aK (aA ?_)))))
  refine aS (.bool (mq e f e[i].b.toNat (fr&&decide (e[i].op=4∨e[i].op=5)))) Tryz.results90 F ?_
  exact⟨[],Sub.z,ax Value.bool (by rw[iH hi,az YQ,ak (show¬dH e[i].op<1 by omega),Xs,ak (show¬dH e[i].op<2 by omega)];rfl),F⟩
 refine ad (aB (aN F) (Bool.eq_false_iff.2 Xs)) (aV F F (aV F F (aV F F (aV F F (aV F F (aV F F (aV F F ?_)))))))
 refine aV F F (aV F F (ad (cg F F) (aj F (ae (aK (aA ?_))))))
 refine aS (.bool false) Tryz.results90 F ?_
 exact⟨[],Sub.z,ax Value.bool (by rw[iH hi,az YQ,ak (show¬dH e[i].op<1 by omega),Bool.eq_false_iff.2 Xs];rfl),F⟩
def Lk (e:List dK):Prop:= ∀i (h:i<e.length),(1≤dH e[i].op→ ∃j:Nat,e[i].a=(j:Int)∧j<i)∧(2≤dH e[i].op→ ∃j:Nat,e[i].b=(j:Int)∧j<i)
set_option maxRecDepth 20000 in
theorem Tr (w:World) [dE Tryz.prog w] (eb:Option Addr) (ec:Nat) (e:List dK) (hE:Sl w eb (bt e)) (z2 z8:Nat) (h2:Sl w (aD z2) [.slice eb e.length ec]) (h8:Sl w (aD z8) [(.func (.func 90) #[] #[(dW (aD z2) 0),(dW (aD z8) 0)])]) (ht:Lk e): ∀(f i:Nat) (hi:i<e.length) (hf:i<f) (fr:Bool),
  cH Tryz.prog 90 [vN i,.bool fr,(dW (aD z2) 0),(dW (aD z8) 0)] w fun v N=>v=.bool (mq e f i fr)∧N=[]
 |0,i,hi,hf,fr=>absurd hf (by omega)
 |f+1,i,hi,hf,fr=>ON w eb ec e hE z2 z8 h2 h8 i f fr hi (fun Yz w1 _ hI g=>by
   obtain⟨j,hj,Fv⟩:=(ht i hi).1 Yz
   rw[hj,Int.toNat_natCast]
   exact cP (first:=[]) (args:=[vN j,.bool g]) (gr:=[(dW (aD z2) 0),(dW (aD z8) 0)]) Ll (Tr w1 eb ec e (hI.sl hE) z2 z8 (hI.sl h2) (hI.sl h8) ht f j (by omega) (by omega) g)) (fun Yz w1 _ hI g=>by
   obtain⟨j,hj,Fv⟩:=(ht i hi).2 Yz
   rw[hj,Int.toNat_natCast]
   exact cP (first:=[]) (args:=[vN j,.bool g]) (gr:=[(dW (aD z2) 0),(dW (aD z8) 0)]) Ll (Tr w1 eb ec e (hI.sl hE) z2 z8 (hI.sl h2) (hI.sl h8) ht f j (by omega) (by omega) g))
end Go.Proofs.YtgdbfideeeegmaaGreatDoor

namespace Go.Lx
open Go.RowKit Go.Proofs.YtgdbfideeeegmaaGreatDoor
theorem tJ {v b:Nat} {fs:List Nat} {x:dK} (hb: ∀j,j<fs.length→fs.getD j 0≤j) (h:gG v fs x=.ok b):
  b≤fs.length∧gf v x=0∧(dH x.op=1→0<fs.length∧x.a=(fs.length:Int)-1∧b=fs.getD (fs.length-1) 0)∧
  (dH x.op=2→0<fs.length∧x.b=(fs.length:Int)-1∧0<fs.getD (fs.length-1) 0∧x.a=(fs.getD (fs.length-1) 0:Int)-1∧b=fs.getD x.a.toNat 0)∧(dH x.op=0→b=fs.length):=by
 unfold gG at h
 split at h
 ·cases h
 ·rename_i h0
  have h0':gf v x=0:=by omega
  split at h
  ·rename_i h1
   split at h
   ·cases h
   ·rename_i h2
    injection h with h
    have:=hb (fs.length-1) (by omega)
    exact⟨by omega,h0',fun _=>⟨by omega,by omega,h.symm⟩,fun h9=>by omega,fun h9=>by omega⟩
  ·rename_i h1
   split at h
   ·rename_i h2
    split at h
    ·cases h
    ·rename_i h3
     injection h with h
     have h4:=hb (fs.length-1) (by omega)
     have h5:x.a.toNat<fs.length:=by omega
     have h6:=hb _ h5
     exact⟨by omega,h0',fun h9=>by omega,fun _=>⟨by omega,by omega,by omega,by omega,h.symm⟩,fun h9=>by omega⟩
   ·injection h with h
    exact⟨by omega,h0',fun h9=>by omega,fun h9=>by omega,fun _=>h.symm⟩
theorem OU (n:Nat):dH n≤2:=by unfold dH;split<;>(try split)<;>omega
theorem pq {v:Nat} {e:List dK} {fs:List Nat} (h:jW v e=.ok fs): ∀i,i≤e.length→ ∃gs,jW v (e.take i)=.ok gs∧gs.length=i∧(∀j,j<i→gs.getD j 0≤j)∧gs=fs.take i
 |0,_=>⟨[],F,F,fun j hj=>by omega,by simp⟩
 |i+1,hi=>by
  obtain⟨gs,h1,h2,h3,h4⟩:=pq h i (by omega)
  have gn:i<e.length:=by omega
  cases hs:gG v gs e[i]with
  |error n=>rw[jQ gn h1 hs]at h;cases h
  |ok b=>
   have hn:=qQ gn h1 hs
   have hb:=tJ (by rw[h2];exact h3) hs
   refine⟨gs++[b],hn,by simp[h2],rl h2 h3 (by omega),?_⟩
   have hp: ∀(l:List dK) (a:List Nat) (c:List Nat),l.foldl (mM v) (.ok a)=.ok c→a<+:c:=by
    intro l
    induction l with
    |nil=>intro a c h;injection h with h;subst h;exact List.prefix_refl _
    |cons x l ih=>
     intro a c h
     rw[cS]at h
     cases hx:mM v (.ok a) x with
     |error n=>rw[hx,tI]at h;cases h
     |ok a2=>
      rw[hx]at h
      have h5:=ih a2 c h
      have h6:a<+:a2:=by
       unfold mM at hx
       cases hy:gG v a x with
       |error n=>simp only[hy]at hx;cases hx
       |ok b2=>simp only[hy]at hx;injection hx with hx;subst hx;exact List.prefix_append _ _
      exact h6.trans h5
   have h7:(gs++[b])<+:fs:=by
    have h8:jW v e=(e.drop (i+1)).foldl (mM v) (jW v (e.take (i+1))):=by
     conv=>lhs;rw[←List.take_append_drop (i+1) e]
     unfold jW;rw[cO]
    rw[h8,hn]at h
    exact hp _ _ _ h
   have:=List.prefix_iff_eq_take.1 h7
   simpa[h2]using this
theorem qw {v:Nat} {e:List dK} {fs:List Nat} (h:jW v e=.ok fs):Lk e:=fun i hi=>by
 obtain⟨gs,h1,h2,h3,_⟩:=pq h i (Nat.le_of_lt hi)
 cases hs:gG v gs e[i]with
 |error n=>rw[jQ hi h1 hs]at h;cases h
 |ok b=>
  obtain⟨_,_,k1,k2,_⟩:=tJ (by rw[h2];exact h3) hs
  have hc:=OU e[i].op
  refine⟨fun hh=>?_,fun hh=>?_⟩
  ·by_cases h5:dH e[i].op=1
   ·have:=k1 h5;exact⟨i-1,by omega,by omega⟩
   ·have:=k2 (by omega)
    have h6:=h3 (gs.length-1) (by omega)
    exact⟨gs.getD (gs.length-1) 0-1,by omega,by omega⟩
  ·have:=k2 (by omega);exact⟨i-1,by omega,by omega⟩
theorem A5 {v n:Nat}: ∀ {e:List dK} {a:List Nat},e.foldl (mM v) (.ok a)=.error n→n≠0
 | [],a,h=>by cases h
 |x::e,a,h=>by
  rw[cS]at h
  cases hs:gG v a x with
  |error k=>
   have hk:mM v (.ok a) x=.error k:=by unfold mM;simp only[hs]
   rw[hk,tI]at h
   injection h with h
   subst h
   unfold gG at hs
   split at hs
   ·injection hs with hs;omega
   ·split at hs
    ·split at hs
     ·injection hs with hs;omega
     ·cases hs
    ·split at hs
     ·split at hs
      ·injection hs with hs;omega
      ·cases hs
     ·cases hs
  |ok b=>
   have hk:mM v (.ok a) x=.ok (a++[b]):=by unfold mM;simp only[hs]
   rw[hk]at h
   exact A5 h
def gw (vars:Int) (e:List dK):Nat:=
 if vars<0∨6<vars then 7 else if e.length=0 then 3 else if 64<e.length then 4 else
  match jW vars.toNat e with
  | .error n=>n
  | .ok fs=>if fs.getD (e.length-1) 0≠0 then 2 else if mq e e.length (e.length-1) true=true then 0 else 2
end Go.Lx


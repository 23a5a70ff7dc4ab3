/- Contracts of functions of the program, and what they answer. Conditions: those each theorem names. -/
import Derived.Test.YtgdbfideeeegmaaGreatDoorA2
import Derived.Test.YtgdbfideeeegmaaGreatDoorA5
import Derived.Test.YtgdbfideeeegmaaGreatDoorB1
import Derived.RecoverIn
import Derived.RangeFuncLeaves
import Derived.Test.YtgdbfideeeegmaaGreatDoorA9
import Derived.Test.YtgdbfideeeegmaaGreatDoorA0
set_option linter.unusedSectionVars false
set_option linter.unusedSimpArgs false
set_option linter.unusedVariables false
set_option linter.unnecessarySimpa false
set_option maxHeartbeats 8000000
set_option maxRecDepth 20000
namespace Go.Proofs.YtgdbfideeeegmaaGreatDoor
open Go.Lx Go.RowKit _root_.Go.Proofs.Tryz
theorem xj (w:World) [dB Tryz.prog w] (k:Nat) (x:eE):
  cA Tryz.prog 39 [v8 k,x.ag] w (TZ 72 [] (k,[x])):=by
 refine aG func39 F ntmps39 F ?_
 refine ai (ao F (dE (cs:=x.cl) F F (fun z1=>?_)))
 refine ao F (bu de F (fun z2=>?_))
 refine ae (ai (ah F (ad (ew 1 cp F cK F F F) (ao F (cH (m:=1) (parts:=[(0,_)]) (cs:=x.cl) dJ cK (by decide) (by kernel_rfl) F (fun z3=>?_))))))
 refine ad (cF (cs:=[v8 k,(.slice (aD z3) 1 1)]) qj de (by kernel_rfl)) (ao F (bV (vs:=[v8 k,(.slice (aD z3) 1 1)]) 1 de F F F F ?_))
 refine ae (aN (az ?_))
 refine cL (i:=1) Tryz.results39 fU F de F F F ?_
 exact⟨[aq (aD z3) 1 72 5 x.cl],(by exact Sub.k .z),[⟨(aD z3),1,[x]⟩],⟨k,⟨(aD z3),1,[x]⟩⟩,F,F,F,.inl (.inl (List.mem_singleton.2 F))⟩
theorem eh {s:Nat} {x:eE} (h:x.op=7∨x.op=8):ep s x=⟨x.op,x.p,x.n,x.a+s,x.b⟩:=aR h
theorem ei {s:Nat} {x:eE} (h:x.op=4∨x.op=5∨x.op=6):ep s x=⟨x.op,x.p,x.n,x.a+s,x.b+s⟩:=by unfold ep;rw[ay (by omega),aR h]
theorem eS {s:Nat} {x:eE} (h: ¬(x.op=7∨x.op=8)) (h2: ¬(x.op=4∨x.op=5∨x.op=6)):ep s x=⟨x.op,x.p,x.n,x.a,x.b⟩:=by unfold ep;rw[ay h,ay h2]
theorem zm {op:Nat} {out:List eE} (h:64<out.length):BQ op out=(3,[]):=aR h
theorem BS {op:Nat} {out:List eE} (h: ¬64<out.length):BQ op out=(0,out):=ay h
theorem D5 {op:Nat} {a:PR} (ha: ¬a.k=3) (h:64<a.r.e.length+1):pE op a.pp=(3,[]):=(ay ha).trans (zm (show 64<(a.r.e++[_]).length by simpa using h))
theorem Hr {op:Nat} {a:PR} (ha: ¬a.k=3) (h: ¬64<a.r.e.length+1):pE op a.pp=(0,a.r.e++[⟨op,0,0,(a.r.e.length:Int)-1,0⟩]):=(ay ha).trans (BS (show¬64<(a.r.e++[_]).length by simpa using h))
theorem D6 {op:Nat} {a b:PR} (ha: ¬a.k=3) (hb: ¬b.k=3) (h:64<a.r.e.length+b.r.e.length+1):mT op a.pp b.pp=(3,[]):=(ay (fun h=>h.elim ha hb)).trans (zm (show 64<(a.r.e++b.r.e.map _++[_]).length by simpa[Nat.add_assoc]using h))
theorem Hs {op:Nat} {a b:PR} (ha: ¬a.k=3) (hb: ¬b.k=3) (h: ¬64<a.r.e.length+b.r.e.length+1):mT op a.pp b.pp=(0,a.r.e++b.r.e.map (ep a.r.e.length)++[⟨op,0,0,(a.r.e.length:Int)-1,((a.r.e.length+b.r.e.length:Nat):Int)-1⟩]):=(ay (fun h=>h.elim ha hb)).trans (BS (show¬64<(a.r.e++b.r.e.map _++[_]).length by simpa[Nat.add_assoc]using h))
theorem jo {e:List eE} {j:Nat} (h:j<e.length) (g:eE→eE):(e.take (j+1)).map g=(e.take j).map g++[g e[j]]:=by rw[aH h,bo];rfl
theorem Rc (w:World) [dB Tryz.prog w] (op:Nat) (tb:Option Addr) (tc:Nat) (a:PR) (hT:Sl w tb (eD [a])) (ha:Sl w a.r.b (bX a.r.e)) (Bf:fB a.pp):
  cA Tryz.prog 68 [v8 op,(.slice tb 1 tc)] w (TZ 72 [a] (pE op a.pp)):=by
 refine aG func68 F ntmps68 F ?_
 refine ai (ao F (bu de F (fun z1=>?_)))
 refine ae (ai (aj F (ae (ai (ad (sW (cs:=[(vI 0),(vI 0)]) s5 bl uj (by kernel_rfl)) (ao F (bu uj F (fun z2=>?_))))))))
 refine ao F (bV (vs:=[(vI 0),(vI 0)]) 0 uj F F F F ?_)
 refine ae (aO (ai (ah F (ad (bT (cP lU F) (v':=vI 1) F) (ah F (ae (aU ?_)))))))
 refine o9 2 (T.round ?_)
 refine ai (ad (aA (cR F F) (b':=true) F) (ae (aO ?_)))
 refine bW F ?_
 refine aE (aO (aU (ai (ah F (ad (dU (i:=0) lU de F F (aJ hT) (by simp) (by rw[gZ];simp)) (ad (eP (vs:=a.cells) fU F de F F (bw _) (aJ hT) (nD (l:=[a]) (i:=0) (by simp))) (ao F (bu de F (fun z3=>?_)))))))))
 refine aj F (ao F (bV (vs:=a.cells) 0 de F F F F ?_))
 refine ae (aO (ai (ad (bj fU F nE F F) (ad (bn 0 uk F F F F) (ad (bM F F) (ae (aP F (fun hc=>?_) (fun hc=>?_))))))))
 ·have mU:a.k=3:=by omega
  refine ai (ad (cF (cs:=[.int .u8 3,nS]) qj de (by kernel_rfl)) (ao F (bV (vs:=[.int .u8 3,nS]) 2 de F F F F ?_)))
  refine ae (aN (az ?_))
  refine cL (i:=2) Tryz.results68 fU F de F F F ?_
  exact⟨[],Sub.z,[],⟨3,⟨none,0,[]⟩⟩,F,F,(aR mU).symm,.inl (.inr F)⟩
 have xk: ¬a.k=3:=by omega
 have Re: ¬a.k=3:=xk
 refine aE (ai (ah F (ad (cP dJ F) (aj F (ae (aO (ai (ad (bj fU F g_ F F) (ad (bn 0 dJ F F F F) (ad (cP dJ F) (ah F (ae (aU (T.eY 72 5 ?_))))))))))))))
 refine dM (fun(j1:Nat) ρ O=> ∃(oa:Option Addr) (ka:Nat),O=[aq oa ka 72 5 (bX ((a.r.e.take j1).map (ep 0))),oI z3 69 a.cells,oI z2 153 [(vI 0),(vI 0)],oI z1 69 [(.int .u8 0),nS]]∧j1≤a.r.e.length∧dt [(0,v8 op),(1,(.slice tb 1 tc)),(4,(.pointer (aD z1))),(5,(.slice oa (((a.r.e.take j1).map (ep 0)).length) ka)),(6,(.pointer (aD z2))),(7,vI 0),(8,(.pointer (aD z3))),(9,vI (0:Int)),(12,(.agg #[(vI 0),(vI 0)])),(13,(.slice tb 1 tc)),(14,vI 1),(15,vI 0),(27,(.slice a.r.b a.r.e.length a.r.c)),(28,vI (a.r.e.length:Int)),(29,vN j1)] ρ) (fun j1=>a.r.e.length-j1) 0 ?_ ?_
 ·exact⟨none,0,F,bs _,(.of F)⟩
 rintro j1 ρ O ⟨oa,ka,rfl,hj,hH⟩
 obtain⟨gP,rfl⟩:=hH.elim
 clear hH
 refine ai (ad (cR F F) (ae (aO (aP F (fun hc=>?_) (fun hc=>?_)))))
 ·have iL:j1<a.r.e.length:=by omega
  have Dy:yE a.r.e.length a.r.e[j1]:=Bf.pc _ (aL iL)
  have TW:=Dy.a0;have zi:=Dy.a1;have Dz:=Dy.b0;have X4:=Dy.b1
  have Y4:a.r.e.length≤64:=Bf.len
  refine aE (aO (aU (ai ?_)))
  refine ad (dU (i:=j1) dJ cK F F (aJ ha) iL (by rw[cz];omega)) (ad (eP (vs:=a.r.e[j1].cl) cp F cK F F (bw _) (aJ ha) (fH (ap iL))) ?_)
  refine ao F (bu cK F (fun z4=>?_))
  refine ao F (bV (vs:=a.r.e[j1].cl) 0 cK F F F F ?_)
  refine ae ?_
  refine gh (fun ρ O=>Sub [oI z4 72 (ep 0 a.r.e[j1]).cl,aq oa ka 72 5 (bX ((a.r.e.take j1).map (ep 0))),oI z3 69 a.cells,oI z2 153 [(vI 0),(vI 0)],oI z1 69 [(.int .u8 0),nS]] O∧dt [(0,v8 op),(1,(.slice tb 1 tc)),(4,(.pointer (aD z1))),(5,(.slice oa (((a.r.e.take j1).map (ep 0)).length) ka)),(6,(.pointer (aD z2))),(7,vI 0),(8,(.pointer (aD z3))),(9,vI (0:Int)),(11,(.pointer (aD z4))),(12,(.agg #[(vI 0),(vI 0)])),(13,(.slice tb 1 tc)),(14,vI 1),(15,vI 0),(27,(.slice a.r.b a.r.e.length a.r.c)),(28,vI (a.r.e.length:Int)),(29,vN j1)] ρ) ?_ ?_
  ·refine aO ?_
   refine be (ad (bj cp F dF F F) (ad (bn 0 fF F F F F) (ae (aU (aO (ai (ad (bM F F) (aj F (ae (aP F (fun hc=>?_) (fun hc=>?_)))))))))))
   ·have qk:a.r.e[j1].op=7:=by omega
    refine aE (aP F (fun hc=>?_) (fun hc=>?_))
    ·have qk:a.r.e[j1].op=7:=by omega
     refine be (ad (bj cp F bl F F) (ad (bn 0 dS F F F F) (ah F (ad (dK F F (by omega)) (ad (bj cp F bl F F) (ao F (bV (vs:=[(vI (a.r.e[j1].a+(0:Int)))]) 0 bl F F F F ?_)))))))
     refine ae ?_
     exact⟨(by first|(rw[eh (by omega)];exact Sub.rf)|(rw[ei (by omega)];exact Sub.rf)|(rw[eS (by omega) (by omega)];exact Sub.rf)),(.of F)⟩
    have ql: ¬a.r.e[j1].op=7:=by omega
    refine aO (ai (ad (bM F F) (aj F (ae (aP F (fun hc=>?_) (fun hc=>?_))))))
    ·have hU:a.r.e[j1].op=4:=by omega
     refine aE (aP F (fun hc=>?_) (fun hc=>?_))
     ·have hU:a.r.e[j1].op=4:=by omega
      refine be (ad (bj cp F bl F F) (ad (bn 0 dS F F F F) (ah F (ad (dK F F (by omega)) (ad (bj cp F bl F F) (ad (bn 0 dS F F F F) (ah F (ad (dK F F (by omega)) (ad (bj cp F bl F F) (ao F (bV (vs:=[(vI (a.r.e[j1].a+(0:Int)))]) 0 bl F F F F ?_)))))))))))
      refine ad (bj cp F bl F F) (ao F (bV (vs:=[(vI (a.r.e[j1].b+(0:Int)))]) 0 bl F F F F ?_))
      refine ae ?_
      exact⟨(by first|(rw[eh (by omega)];exact Sub.rf)|(rw[ei (by omega)];exact Sub.rf)|(rw[eS (by omega) (by omega)];exact Sub.rf)),(.of F)⟩
     have ik: ¬a.r.e[j1].op=4:=by omega
     refine aE ?_
     exact⟨(by first|(rw[eh (by omega)];exact Sub.rf)|(rw[ei (by omega)];exact Sub.rf)|(rw[eS (by omega) (by omega)];exact Sub.rf)),(.of F)⟩
    have ik: ¬a.r.e[j1].op=4:=by omega
    refine ai (ad (bM F F) (aj F (ae (aP F (fun hc=>?_) (fun hc=>?_)))))
    ·have hU:a.r.e[j1].op=5:=by omega
     refine aE (aP F (fun hc=>?_) (fun hc=>?_))
     ·have hU:a.r.e[j1].op=5:=by omega
      refine be (ad (bj cp F bl F F) (ad (bn 0 dS F F F F) (ah F (ad (dK F F (by omega)) (ad (bj cp F bl F F) (ad (bn 0 dS F F F F) (ah F (ad (dK F F (by omega)) (ad (bj cp F bl F F) (ao F (bV (vs:=[(vI (a.r.e[j1].a+(0:Int)))]) 0 bl F F F F ?_)))))))))))
      refine ad (bj cp F bl F F) (ao F (bV (vs:=[(vI (a.r.e[j1].b+(0:Int)))]) 0 bl F F F F ?_))
      refine ae ?_
      exact⟨(by first|(rw[eh (by omega)];exact Sub.rf)|(rw[ei (by omega)];exact Sub.rf)|(rw[eS (by omega) (by omega)];exact Sub.rf)),(.of F)⟩
     have ik: ¬a.r.e[j1].op=5:=by omega
     refine aE ?_
     exact⟨(by first|(rw[eh (by omega)];exact Sub.rf)|(rw[ei (by omega)];exact Sub.rf)|(rw[eS (by omega) (by omega)];exact Sub.rf)),(.of F)⟩
    have ik: ¬a.r.e[j1].op=5:=by omega
    refine be (ad (bM F F) (aj F (ae (aP F (fun hc=>?_) (fun hc=>?_)))))
    ·have hU:a.r.e[j1].op=6:=by omega
     refine be (ad (bj cp F bl F F) (ad (bn 0 dS F F F F) (ah F (ad (dK F F (by omega)) (ad (bj cp F bl F F) (ad (bn 0 dS F F F F) (ah F (ad (dK F F (by omega)) (ad (bj cp F bl F F) (ao F (bV (vs:=[(vI (a.r.e[j1].a+(0:Int)))]) 0 bl F F F F ?_)))))))))))
     refine ad (bj cp F bl F F) (ao F (bV (vs:=[(vI (a.r.e[j1].b+(0:Int)))]) 0 bl F F F F ?_))
     refine ae ?_
     exact⟨(by first|(rw[eh (by omega)];exact Sub.rf)|(rw[ei (by omega)];exact Sub.rf)|(rw[eS (by omega) (by omega)];exact Sub.rf)),(.of F)⟩
    have ik: ¬a.r.e[j1].op=6:=by omega
    refine aE ?_
    exact⟨(by first|(rw[eh (by omega)];exact Sub.rf)|(rw[ei (by omega)];exact Sub.rf)|(rw[eS (by omega) (by omega)];exact Sub.rf)),(.of F)⟩
   have ql: ¬a.r.e[j1].op=7:=by omega
   refine be (ad (bM F F) (aj F (ae (aP F (fun hc=>?_) (fun hc=>?_)))))
   ·have qk:a.r.e[j1].op=8:=by omega
    refine be (ad (bj cp F bl F F) (ad (bn 0 dS F F F F) (ah F (ad (dK F F (by omega)) (ad (bj cp F bl F F) (ao F (bV (vs:=[(vI (a.r.e[j1].a+(0:Int)))]) 0 bl F F F F ?_)))))))
    refine ae ?_
    exact⟨(by first|(rw[eh (by omega)];exact Sub.rf)|(rw[ei (by omega)];exact Sub.rf)|(rw[eS (by omega) (by omega)];exact Sub.rf)),(.of F)⟩
   have ql: ¬a.r.e[j1].op=8:=by omega
   refine aO (ai (ad (bM F F) (aj F (ae (aP F (fun hc=>?_) (fun hc=>?_))))))
   ·have hU:a.r.e[j1].op=4:=by omega
    refine aE (aP F (fun hc=>?_) (fun hc=>?_))
    ·have hU:a.r.e[j1].op=4:=by omega
     refine be (ad (bj cp F bl F F) (ad (bn 0 dS F F F F) (ah F (ad (dK F F (by omega)) (ad (bj cp F bl F F) (ad (bn 0 dS F F F F) (ah F (ad (dK F F (by omega)) (ad (bj cp F bl F F) (ao F (bV (vs:=[(vI (a.r.e[j1].a+(0:Int)))]) 0 bl F F F F ?_)))))))))))
     refine ad (bj cp F bl F F) (ao F (bV (vs:=[(vI (a.r.e[j1].b+(0:Int)))]) 0 bl F F F F ?_))
     refine ae ?_
     exact⟨(by first|(rw[eh (by omega)];exact Sub.rf)|(rw[ei (by omega)];exact Sub.rf)|(rw[eS (by omega) (by omega)];exact Sub.rf)),(.of F)⟩
    have ik: ¬a.r.e[j1].op=4:=by omega
    refine aE ?_
    exact⟨(by first|(rw[eh (by omega)];exact Sub.rf)|(rw[ei (by omega)];exact Sub.rf)|(rw[eS (by omega) (by omega)];exact Sub.rf)),(.of F)⟩
   have ik: ¬a.r.e[j1].op=4:=by omega
   refine ai (ad (bM F F) (aj F (ae (aP F (fun hc=>?_) (fun hc=>?_)))))
   ·have hU:a.r.e[j1].op=5:=by omega
    refine aE (aP F (fun hc=>?_) (fun hc=>?_))
    ·have hU:a.r.e[j1].op=5:=by omega
     refine be (ad (bj cp F bl F F) (ad (bn 0 dS F F F F) (ah F (ad (dK F F (by omega)) (ad (bj cp F bl F F) (ad (bn 0 dS F F F F) (ah F (ad (dK F F (by omega)) (ad (bj cp F bl F F) (ao F (bV (vs:=[(vI (a.r.e[j1].a+(0:Int)))]) 0 bl F F F F ?_)))))))))))
     refine ad (bj cp F bl F F) (ao F (bV (vs:=[(vI (a.r.e[j1].b+(0:Int)))]) 0 bl F F F F ?_))
     refine ae ?_
     exact⟨(by first|(rw[eh (by omega)];exact Sub.rf)|(rw[ei (by omega)];exact Sub.rf)|(rw[eS (by omega) (by omega)];exact Sub.rf)),(.of F)⟩
    have ik: ¬a.r.e[j1].op=5:=by omega
    refine aE ?_
    exact⟨(by first|(rw[eh (by omega)];exact Sub.rf)|(rw[ei (by omega)];exact Sub.rf)|(rw[eS (by omega) (by omega)];exact Sub.rf)),(.of F)⟩
   have ik: ¬a.r.e[j1].op=5:=by omega
   refine be (ad (bM F F) (aj F (ae (aP F (fun hc=>?_) (fun hc=>?_)))))
   ·have hU:a.r.e[j1].op=6:=by omega
    refine be (ad (bj cp F bl F F) (ad (bn 0 dS F F F F) (ah F (ad (dK F F (by omega)) (ad (bj cp F bl F F) (ad (bn 0 dS F F F F) (ah F (ad (dK F F (by omega)) (ad (bj cp F bl F F) (ao F (bV (vs:=[(vI (a.r.e[j1].a+(0:Int)))]) 0 bl F F F F ?_)))))))))))
    refine ad (bj cp F bl F F) (ao F (bV (vs:=[(vI (a.r.e[j1].b+(0:Int)))]) 0 bl F F F F ?_))
    refine ae ?_
    exact⟨(by first|(rw[eh (by omega)];exact Sub.rf)|(rw[ei (by omega)];exact Sub.rf)|(rw[eS (by omega) (by omega)];exact Sub.rf)),(.of F)⟩
   have ik: ¬a.r.e[j1].op=6:=by omega
   refine aE ?_
   exact⟨(by first|(rw[eh (by omega)];exact Sub.rf)|(rw[ei (by omega)];exact Sub.rf)|(rw[eS (by omega) (by omega)];exact Sub.rf)),(.of F)⟩
  rintro ρ O ⟨hS,hH⟩
  obtain⟨gP,rfl⟩:=hH.elim
  clear hH
  refine dv hS ?_
  refine be (ah F (ad (ew 0 cp F cK F F F) (ao F (cH (m:=1) (parts:=[(0,_)]) (cs:=(ep 0 a.r.e[j1]).cl) dJ cK (by decide) (by kernel_rfl) F (fun z5=>?_)))))
  refine ao F (dh 2 dJ dJ cK F F F F (by rw[cz]) (by decide) (Src.row (j:=0) F (by simp)) (by simp[fu]) (by simp only[c8,aF,ar,cw];omega) (by decide) (by decide) (fun z6 Ht=>?_))
  refine aj F (ae (be (ad (dx (a:=j1) (b:=1) F F (by omega)) (ah F (ae ?_)))))
  exact⟨j1+1,by omega,[aq z6 Ht 72 5 ((bX ((a.r.e.take j1).map (ep 0)))++(ep 0 a.r.e[j1]).cl),oI z3 69 a.cells,oI z2 153 [(vI 0),(vI 0)],oI z1 69 [(.int .u8 0),nS]],(by exact Sub.d (.d (.k (.k (.k (.k .z)))))),z6,Ht,by rw[jo iL,lA (((a.r.e.take j1).map (ep 0)))];rfl,by omega,⟨F,F,F,(ax (fun n9=>Value.slice z6 n9 Ht) (show(((a.r.e.take j1).map (ep 0)).length)+1=(((a.r.e.take (j1+1)).map (ep 0))).length by rw[jo iL];simp only[aF,bL,cN]<;>omega)),F,F,F,F,F,F,F,F,F,F,F,trivial⟩⟩
 have Fy: ¬j1<a.r.e.length:=by omega
 have Mt:j1=a.r.e.length:=by omega
 have Jc:0<a.r.e.length:=Bf.pos Re
 have hqa:a.r.e.length≤64:=Bf.len
 have T1:((a.r.e.take j1).map (ep 0))=a.r.e:=by rw[Mt,List.take_length,show ep 0=id from funext BP,List.map_id]
 have Jk:((a.r.e.take j1).map (ep 0)).length=a.r.e.length:=by rw[Mt];simp
 refine cG ?_
 refine be (ah F (ah F (ad (cP dJ F) (ad (sa (a:=(((a.r.e.take j1).map (ep 0)).length)) (b:=1) F F (by omega) (by omega)) (ad (js (i:=0) s5 bl F F (by decide)) (ao F (bV (vs:=[(vN ((((a.r.e.take j1).map (ep 0)).length)-1))]) 2 bl F F F F ?_)))))))
 refine ae (be (ad (bT (dK F F (by omega)) (v':=vI 1) F) (ah F (ae ?_))))
 refine nB [aq oa ka 72 5 (bX ((a.r.e.take j1).map (ep 0))),oI z3 69 a.cells,oI z2 153 [(vN ((((a.r.e.take j1).map (ep 0)).length)-1)),(vI 0)],oI z1 69 [(.int .u8 0),nS]] [(0,v8 op),(1,(.slice tb 1 tc)),(4,(.pointer (aD z1))),(5,(.slice oa (((a.r.e.take j1).map (ep 0)).length) ka)),(6,(.pointer (aD z2))),(7,vI 0),(8,(.pointer (aD z3))),(9,vI (0:Int)),(12,(.agg #[(vI 0),(vI 0)])),(13,(.slice tb 1 tc)),(14,vI 1),(15,vI 1)] F (.of F) (fun gP=>?_)
 refine T.round ?_
 refine ai (ad (aA (cR F F) (b':=false) F) (ae (aO (a_ F ?_))))
 refine cG ?_
 refine ai (ah F (ah F (ad (js (i:=0) s5 bl F F (by decide)) (ad (bn 2 dS F F F F) (ad (js (i:=1) s5 bl F F (by decide)) (ad (bn 2 dS F F F F) (ad (cF (cs:=[v8 op,(.int .u8 0),(.int .u8 0),(vN ((((a.r.e.take j1).map (ep 0)).length)-1)),(vI 0)]) mV cK (by kernel_rfl)) (ao F (cH (m:=1) (parts:=[(0,_)]) (cs:=[v8 op,(.int .u8 0),(.int .u8 0),(vN ((((a.r.e.take j1).map (ep 0)).length)-1)),(vI 0)]) dJ cK (by decide) (by kernel_rfl) F (fun z8=>?_))))))))))
 refine ao F (dh 1 dJ dJ cK F F F F (by rw[cz]) (by decide) (Src.row (j:=0) F (by simp)) (by simp[fu]) (by simp only[c8,aF,ar,cw];omega) (by decide) (by decide) (fun z9 pe=>?_))
 refine aj F (ae (aO (ai (ah F (ad (cP dJ F) (ad (gH F F) (ae (aP F (fun hc=>?_) (fun hc=>?_)))))))))
 ·have Jl:(((a.r.e.take j1).map (ep 0)).length)+1>64:=by omega
  have hL:=Jl
  refine ai (ad (cF (cs:=[.int .u8 3,nS]) qj de (by kernel_rfl)) (ao F (bV (vs:=[.int .u8 3,nS]) 4 de F F F F ?_)))
  refine ae (aN (az ?_))
  refine cL (i:=4) Tryz.results68 fU F de F F F ?_
  exact⟨[],Sub.z,[],⟨3,⟨none,0,[]⟩⟩,F,F,(D5 Re (by rw[T1]at hL;simpa using hL)).symm,.inl (.inr F)⟩
 have Jm: ¬(((a.r.e.take j1).map (ep 0)).length)+1>64:=by omega
 have hL:=Jm
 refine aE (ai (ah F (ad (cF (cs:=[(.int .u8 0),(.slice z9 ((((a.r.e.take j1).map (ep 0)).length)+1) pe)]) qj de (by kernel_rfl)) (ao F (bV (vs:=[(.int .u8 0),(.slice z9 ((((a.r.e.take j1).map (ep 0)).length)+1) pe)]) 4 de F F F F ?_)))))
 refine ae (aN (az ?_))
 refine cL (i:=4) Tryz.results68 fU F de F F F ?_
 have Rf:=Hr (op:=op) Re (by rw[T1]at hL;simpa using hL)
 exact⟨[aq z9 pe 72 5 ((bX ((a.r.e.take j1).map (ep 0)))++[v8 op,(.int .u8 0),(.int .u8 0),(vN ((((a.r.e.take j1).map (ep 0)).length)-1)),(vI 0)])],(by exact Sub.d (.k .z)),[⟨z9,pe,(pE op a.pp).2⟩],⟨0,⟨z9,pe,(pE op a.pp).2⟩⟩,ax (fun n9=>Value.agg #[.int .u8 0,.slice z9 n9 pe]) (show(((a.r.e.take j1).map (ep 0)).length)+1=((pE op a.pp).2).length by rw[Rf,T1];first|(simp;done)|(simp;omega)),ax (fun z=>[aq z9 pe 72 5 z]) (show(bX ((a.r.e.take j1).map (ep 0)))++[v8 op,(.int .u8 0),(.int .u8 0),(vN ((((a.r.e.take j1).map (ep 0)).length)-1)),(vI 0)]=bX ((pE op a.pp).2) by rw[Rf,T1,lA];first|(simp[bX,eE.cells];done)|(simp[bX,eE.cells];omega)),by rw[Rf];rfl,.inl (.inl (List.mem_singleton.2 F))⟩
theorem Jn (w:World) [dB Tryz.prog w] (op:Nat) (tb:Option Addr) (tc:Nat) (a b:PR) (hT:Sl w tb (eD [a,b])) (ha:Sl w a.r.b (bX a.r.e)) (Bf:fB a.pp) (hb:Sl w b.r.b (bX b.r.e)) (Pq:fB b.pp):
  cA Tryz.prog 68 [v8 op,(.slice tb 2 tc)] w (TZ 72 [a,b] (mT op a.pp b.pp)):=by
 refine aG func68 F ntmps68 F ?_
 refine ai (ao F (bu de F (fun z1=>?_)))
 refine ae (ai (aj F (ae (ai (ad (sW (cs:=[(vI 0),(vI 0)]) s5 bl uj (by kernel_rfl)) (ao F (bu uj F (fun z2=>?_))))))))
 refine ao F (bV (vs:=[(vI 0),(vI 0)]) 0 uj F F F F ?_)
 refine ae (aO (ai (ah F (ad (bT (cP lU F) (v':=vI 2) F) (ah F (ae (aU ?_)))))))
 refine o9 3 (T.round ?_)
 refine ai (ad (aA (cR F F) (b':=true) F) (ae (aO ?_)))
 refine bW F ?_
 refine aE (aO (aU (ai (ah F (ad (dU (i:=0) lU de F F (aJ hT) (by simp) (by rw[gZ];simp)) (ad (eP (vs:=a.cells) fU F de F F (bw _) (aJ hT) (nD (l:=[a,b]) (i:=0) (by simp))) (ao F (bu de F (fun z3=>?_)))))))))
 refine aj F (ao F (bV (vs:=a.cells) 0 de F F F F ?_))
 refine ae (aO (ai (ad (bj fU F nE F F) (ad (bn 0 uk F F F F) (ad (bM F F) (ae (aP F (fun hc=>?_) (fun hc=>?_))))))))
 ·have mU:a.k=3:=by omega
  refine ai (ad (cF (cs:=[.int .u8 3,nS]) qj de (by kernel_rfl)) (ao F (bV (vs:=[.int .u8 3,nS]) 2 de F F F F ?_)))
  refine ae (aN (az ?_))
  refine cL (i:=2) Tryz.results68 fU F de F F F ?_
  exact⟨[],Sub.z,[],⟨3,⟨none,0,[]⟩⟩,F,F,(aR (.inl mU)).symm,.inl (.inr F)⟩
 have xk: ¬a.k=3:=by omega
 have Re: ¬a.k=3:=xk
 refine aE (ai (ah F (ad (cP dJ F) (aj F (ae (aO (ai (ad (bj fU F g_ F F) (ad (bn 0 dJ F F F F) (ad (cP dJ F) (ah F (ae (aU (T.eY 72 5 ?_))))))))))))))
 refine dM (fun(j1:Nat) ρ O=> ∃(oa:Option Addr) (ka:Nat),O=[aq oa ka 72 5 (bX ((a.r.e.take j1).map (ep 0))),oI z3 69 a.cells,oI z2 153 [(vI 0),(vI 0)],oI z1 69 [(.int .u8 0),nS]]∧j1≤a.r.e.length∧dt [(0,v8 op),(1,(.slice tb 2 tc)),(4,(.pointer (aD z1))),(5,(.slice oa (((a.r.e.take j1).map (ep 0)).length) ka)),(6,(.pointer (aD z2))),(7,vI 0),(8,(.pointer (aD z3))),(9,vI (0:Int)),(12,(.agg #[(vI 0),(vI 0)])),(13,(.slice tb 2 tc)),(14,vI 2),(15,vI 0),(27,(.slice a.r.b a.r.e.length a.r.c)),(28,vI (a.r.e.length:Int)),(29,vN j1)] ρ) (fun j1=>a.r.e.length-j1) 0 ?_ ?_
 ·exact⟨none,0,F,bs _,(.of F)⟩
 rintro j1 ρ O ⟨oa,ka,rfl,hj,hH⟩
 obtain⟨gP,rfl⟩:=hH.elim
 clear hH
 refine ai (ad (cR F F) (ae (aO (aP F (fun hc=>?_) (fun hc=>?_)))))
 ·have iL:j1<a.r.e.length:=by omega
  have Dy:yE a.r.e.length a.r.e[j1]:=Bf.pc _ (aL iL)
  have TW:=Dy.a0;have zi:=Dy.a1;have Dz:=Dy.b0;have X4:=Dy.b1
  have Y4:a.r.e.length≤64:=Bf.len
  refine aE (aO (aU (ai ?_)))
  refine ad (dU (i:=j1) dJ cK F F (aJ ha) iL (by rw[cz];omega)) (ad (eP (vs:=a.r.e[j1].cl) cp F cK F F (bw _) (aJ ha) (fH (ap iL))) ?_)
  refine ao F (bu cK F (fun z4=>?_))
  refine ao F (bV (vs:=a.r.e[j1].cl) 0 cK F F F F ?_)
  refine ae ?_
  refine gh (fun ρ O=>Sub [oI z4 72 (ep 0 a.r.e[j1]).cl,aq oa ka 72 5 (bX ((a.r.e.take j1).map (ep 0))),oI z3 69 a.cells,oI z2 153 [(vI 0),(vI 0)],oI z1 69 [(.int .u8 0),nS]] O∧dt [(0,v8 op),(1,(.slice tb 2 tc)),(4,(.pointer (aD z1))),(5,(.slice oa (((a.r.e.take j1).map (ep 0)).length) ka)),(6,(.pointer (aD z2))),(7,vI 0),(8,(.pointer (aD z3))),(9,vI (0:Int)),(11,(.pointer (aD z4))),(12,(.agg #[(vI 0),(vI 0)])),(13,(.slice tb 2 tc)),(14,vI 2),(15,vI 0),(27,(.slice a.r.b a.r.e.length a.r.c)),(28,vI (a.r.e.length:Int)),(29,vN j1)] ρ) ?_ ?_
  ·refine aO ?_
   refine be (ad (bj cp F dF F F) (ad (bn 0 fF F F F F) (ae (aU (aO (ai (ad (bM F F) (aj F (ae (aP F (fun hc=>?_) (fun hc=>?_)))))))))))
   ·have qk:a.r.e[j1].op=7:=by omega
    refine aE (aP F (fun hc=>?_) (fun hc=>?_))
    ·have qk:a.r.e[j1].op=7:=by omega
     refine be (ad (bj cp F bl F F) (ad (bn 0 dS F F F F) (ah F (ad (dK F F (by omega)) (ad (bj cp F bl F F) (ao F (bV (vs:=[(vI (a.r.e[j1].a+(0:Int)))]) 0 bl F F F F ?_)))))))
     refine ae ?_
     exact⟨(by first|(rw[eh (by omega)];exact Sub.rf)|(rw[ei (by omega)];exact Sub.rf)|(rw[eS (by omega) (by omega)];exact Sub.rf)),(.of F)⟩
    have ql: ¬a.r.e[j1].op=7:=by omega
    refine aO (ai (ad (bM F F) (aj F (ae (aP F (fun hc=>?_) (fun hc=>?_))))))
    ·have hU:a.r.e[j1].op=4:=by omega
     refine aE (aP F (fun hc=>?_) (fun hc=>?_))
     ·have hU:a.r.e[j1].op=4:=by omega
      refine be (ad (bj cp F bl F F) (ad (bn 0 dS F F F F) (ah F (ad (dK F F (by omega)) (ad (bj cp F bl F F) (ad (bn 0 dS F F F F) (ah F (ad (dK F F (by omega)) (ad (bj cp F bl F F) (ao F (bV (vs:=[(vI (a.r.e[j1].a+(0:Int)))]) 0 bl F F F F ?_)))))))))))
      refine ad (bj cp F bl F F) (ao F (bV (vs:=[(vI (a.r.e[j1].b+(0:Int)))]) 0 bl F F F F ?_))
      refine ae ?_
      exact⟨(by first|(rw[eh (by omega)];exact Sub.rf)|(rw[ei (by omega)];exact Sub.rf)|(rw[eS (by omega) (by omega)];exact Sub.rf)),(.of F)⟩
     have ik: ¬a.r.e[j1].op=4:=by omega
     refine aE ?_
     exact⟨(by first|(rw[eh (by omega)];exact Sub.rf)|(rw[ei (by omega)];exact Sub.rf)|(rw[eS (by omega) (by omega)];exact Sub.rf)),(.of F)⟩
    have ik: ¬a.r.e[j1].op=4:=by omega
    refine ai (ad (bM F F) (aj F (ae (aP F (fun hc=>?_) (fun hc=>?_)))))
    ·have hU:a.r.e[j1].op=5:=by omega
     refine aE (aP F (fun hc=>?_) (fun hc=>?_))
     ·have hU:a.r.e[j1].op=5:=by omega
      refine be (ad (bj cp F bl F F) (ad (bn 0 dS F F F F) (ah F (ad (dK F F (by omega)) (ad (bj cp F bl F F) (ad (bn 0 dS F F F F) (ah F (ad (dK F F (by omega)) (ad (bj cp F bl F F) (ao F (bV (vs:=[(vI (a.r.e[j1].a+(0:Int)))]) 0 bl F F F F ?_)))))))))))
      refine ad (bj cp F bl F F) (ao F (bV (vs:=[(vI (a.r.e[j1].b+(0:Int)))]) 0 bl F F F F ?_))
      refine ae ?_
      exact⟨(by first|(rw[eh (by omega)];exact Sub.rf)|(rw[ei (by omega)];exact Sub.rf)|(rw[eS (by omega) (by omega)];exact Sub.rf)),(.of F)⟩
     have ik: ¬a.r.e[j1].op=5:=by omega
     refine aE ?_
     exact⟨(by first|(rw[eh (by omega)];exact Sub.rf)|(rw[ei (by omega)];exact Sub.rf)|(rw[eS (by omega) (by omega)];exact Sub.rf)),(.of F)⟩
    have ik: ¬a.r.e[j1].op=5:=by omega
    refine be (ad (bM F F) (aj F (ae (aP F (fun hc=>?_) (fun hc=>?_)))))
    ·have hU:a.r.e[j1].op=6:=by omega
     refine be (ad (bj cp F bl F F) (ad (bn 0 dS F F F F) (ah F (ad (dK F F (by omega)) (ad (bj cp F bl F F) (ad (bn 0 dS F F F F) (ah F (ad (dK F F (by omega)) (ad (bj cp F bl F F) (ao F (bV (vs:=[(vI (a.r.e[j1].a+(0:Int)))]) 0 bl F F F F ?_)))))))))))
     refine ad (bj cp F bl F F) (ao F (bV (vs:=[(vI (a.r.e[j1].b+(0:Int)))]) 0 bl F F F F ?_))
     refine ae ?_
     exact⟨(by first|(rw[eh (by omega)];exact Sub.rf)|(rw[ei (by omega)];exact Sub.rf)|(rw[eS (by omega) (by omega)];exact Sub.rf)),(.of F)⟩
    have ik: ¬a.r.e[j1].op=6:=by omega
    refine aE ?_
    exact⟨(by first|(rw[eh (by omega)];exact Sub.rf)|(rw[ei (by omega)];exact Sub.rf)|(rw[eS (by omega) (by omega)];exact Sub.rf)),(.of F)⟩
   have ql: ¬a.r.e[j1].op=7:=by omega
   refine be (ad (bM F F) (aj F (ae (aP F (fun hc=>?_) (fun hc=>?_)))))
   ·have qk:a.r.e[j1].op=8:=by omega
    refine be (ad (bj cp F bl F F) (ad (bn 0 dS F F F F) (ah F (ad (dK F F (by omega)) (ad (bj cp F bl F F) (ao F (bV (vs:=[(vI (a.r.e[j1].a+(0:Int)))]) 0 bl F F F F ?_)))))))
    refine ae ?_
    exact⟨(by first|(rw[eh (by omega)];exact Sub.rf)|(rw[ei (by omega)];exact Sub.rf)|(rw[eS (by omega) (by omega)];exact Sub.rf)),(.of F)⟩
   have ql: ¬a.r.e[j1].op=8:=by omega
   refine aO (ai (ad (bM F F) (aj F (ae (aP F (fun hc=>?_) (fun hc=>?_))))))
   ·have hU:a.r.e[j1].op=4:=by omega
    refine aE (aP F (fun hc=>?_) (fun hc=>?_))
    ·have hU:a.r.e[j1].op=4:=by omega
     refine be (ad (bj cp F bl F F) (ad (bn 0 dS F F F F) (ah F (ad (dK F F (by omega)) (ad (bj cp F bl F F) (ad (bn 0 dS F F F F) (ah F (ad (dK F F (by omega)) (ad (bj cp F bl F F) (ao F (bV (vs:=[(vI (a.r.e[j1].a+(0:Int)))]) 0 bl F F F F ?_)))))))))))
     refine ad (bj cp F bl F F) (ao F (bV (vs:=[(vI (a.r.e[j1].b+(0:Int)))]) 0 bl F F F F ?_))
     refine ae ?_
     exact⟨(by first|(rw[eh (by omega)];exact Sub.rf)|(rw[ei (by omega)];exact Sub.rf)|(rw[eS (by omega) (by omega)];exact Sub.rf)),(.of F)⟩
    have ik: ¬a.r.e[j1].op=4:=by omega
    refine aE ?_
    exact⟨(by first|(rw[eh (by omega)];exact Sub.rf)|(rw[ei (by omega)];exact Sub.rf)|(rw[eS (by omega) (by omega)];exact Sub.rf)),(.of F)⟩
   have ik: ¬a.r.e[j1].op=4:=by omega
   refine ai (ad (bM F F) (aj F (ae (aP F (fun hc=>?_) (fun hc=>?_)))))
   ·have hU:a.r.e[j1].op=5:=by omega
    refine aE (aP F (fun hc=>?_) (fun hc=>?_))
    ·have hU:a.r.e[j1].op=5:=by omega
     refine be (ad (bj cp F bl F F) (ad (bn 0 dS F F F F) (ah F (ad (dK F F (by omega)) (ad (bj cp F bl F F) (ad (bn 0 dS F F F F) (ah F (ad (dK F F (by omega)) (ad (bj cp F bl F F) (ao F (bV (vs:=[(vI (a.r.e[j1].a+(0:Int)))]) 0 bl F F F F ?_)))))))))))
     refine ad (bj cp F bl F F) (ao F (bV (vs:=[(vI (a.r.e[j1].b+(0:Int)))]) 0 bl F F F F ?_))
     refine ae ?_
     exact⟨(by first|(rw[eh (by omega)];exact Sub.rf)|(rw[ei (by omega)];exact Sub.rf)|(rw[eS (by omega) (by omega)];exact Sub.rf)),(.of F)⟩
    have ik: ¬a.r.e[j1].op=5:=by omega
    refine aE ?_
    exact⟨(by first|(rw[eh (by omega)];exact Sub.rf)|(rw[ei (by omega)];exact Sub.rf)|(rw[eS (by omega) (by omega)];exact Sub.rf)),(.of F)⟩
   have ik: ¬a.r.e[j1].op=5:=by omega
   refine be (ad (bM F F) (aj F (ae (aP F (fun hc=>?_) (fun hc=>?_)))))
   ·have hU:a.r.e[j1].op=6:=by omega
    refine be (ad (bj cp F bl F F) (ad (bn 0 dS F F F F) (ah F (ad (dK F F (by omega)) (ad (bj cp F bl F F) (ad (bn 0 dS F F F F) (ah F (ad (dK F F (by omega)) (ad (bj cp F bl F F) (ao F (bV (vs:=[(vI (a.r.e[j1].a+(0:Int)))]) 0 bl F F F F ?_)))))))))))
    refine ad (bj cp F bl F F) (ao F (bV (vs:=[(vI (a.r.e[j1].b+(0:Int)))]) 0 bl F F F F ?_))
    refine ae ?_
    exact⟨(by first|(rw[eh (by omega)];exact Sub.rf)|(rw[ei (by omega)];exact Sub.rf)|(rw[eS (by omega) (by omega)];exact Sub.rf)),(.of F)⟩
   have ik: ¬a.r.e[j1].op=6:=by omega
   refine aE ?_
   exact⟨(by first|(rw[eh (by omega)];exact Sub.rf)|(rw[ei (by omega)];exact Sub.rf)|(rw[eS (by omega) (by omega)];exact Sub.rf)),(.of F)⟩
  rintro ρ O ⟨hS,hH⟩
  obtain⟨gP,rfl⟩:=hH.elim
  clear hH
  refine dv hS ?_
  refine be (ah F (ad (ew 0 cp F cK F F F) (ao F (cH (m:=1) (parts:=[(0,_)]) (cs:=(ep 0 a.r.e[j1]).cl) dJ cK (by decide) (by kernel_rfl) F (fun z5=>?_)))))
  refine ao F (dh 2 dJ dJ cK F F F F (by rw[cz]) (by decide) (Src.row (j:=0) F (by simp)) (by simp[fu]) (by simp only[c8,aF,ar,cw];omega) (by decide) (by decide) (fun z6 Ht=>?_))
  refine aj F (ae (be (ad (dx (a:=j1) (b:=1) F F (by omega)) (ah F (ae ?_)))))
  exact⟨j1+1,by omega,[aq z6 Ht 72 5 ((bX ((a.r.e.take j1).map (ep 0)))++(ep 0 a.r.e[j1]).cl),oI z3 69 a.cells,oI z2 153 [(vI 0),(vI 0)],oI z1 69 [(.int .u8 0),nS]],(by exact Sub.d (.d (.k (.k (.k (.k .z)))))),z6,Ht,by rw[jo iL,lA (((a.r.e.take j1).map (ep 0)))];rfl,by omega,⟨F,F,F,(ax (fun n9=>Value.slice z6 n9 Ht) (show(((a.r.e.take j1).map (ep 0)).length)+1=(((a.r.e.take (j1+1)).map (ep 0))).length by rw[jo iL];simp only[aF,bL,cN]<;>omega)),F,F,F,F,F,F,F,F,F,F,F,trivial⟩⟩
 have Fy: ¬j1<a.r.e.length:=by omega
 have Mt:j1=a.r.e.length:=by omega
 have Jc:0<a.r.e.length:=Bf.pos Re
 have hqa:a.r.e.length≤64:=Bf.len
 have T1:((a.r.e.take j1).map (ep 0))=a.r.e:=by rw[Mt,List.take_length,show ep 0=id from funext BP,List.map_id]
 have Jk:((a.r.e.take j1).map (ep 0)).length=a.r.e.length:=by rw[Mt];simp
 refine cG ?_
 refine be (ah F (ah F (ad (cP dJ F) (ad (sa (a:=(((a.r.e.take j1).map (ep 0)).length)) (b:=1) F F (by omega) (by omega)) (ad (js (i:=0) s5 bl F F (by decide)) (ao F (bV (vs:=[(vN ((((a.r.e.take j1).map (ep 0)).length)-1))]) 2 bl F F F F ?_)))))))
 refine ae (be (ad (bT (dK F F (by omega)) (v':=vI 1) F) (ah F (ae ?_))))
 refine nB [aq oa ka 72 5 (bX ((a.r.e.take j1).map (ep 0))),oI z3 69 a.cells,oI z2 153 [(vN ((((a.r.e.take j1).map (ep 0)).length)-1)),(vI 0)],oI z1 69 [(.int .u8 0),nS]] [(0,v8 op),(1,(.slice tb 2 tc)),(4,(.pointer (aD z1))),(5,(.slice oa (((a.r.e.take j1).map (ep 0)).length) ka)),(6,(.pointer (aD z2))),(7,vI 0),(8,(.pointer (aD z3))),(9,vI (0:Int)),(12,(.agg #[(vI 0),(vI 0)])),(13,(.slice tb 2 tc)),(14,vI 2),(15,vI 1)] F (.of F) (fun gP=>?_)
 refine T.round ?_
 refine ai (ad (aA (cR F F) (b':=true) F) (ae (aO ?_)))
 refine bW F ?_
 refine aE (aO (aU (ai (ah F (ad (dU (i:=1) lU de F F (aJ hT) (by simp) (by rw[gZ];simp)) (ad (eP (vs:=b.cells) fU F de F F (bw _) (aJ hT) (nD (l:=[a,b]) (i:=1) (by simp))) (ao F (bu de F (fun z8=>?_)))))))))
 refine aj F (ao F (bV (vs:=b.cells) 0 de F F F F ?_))
 refine ae (aO (ai (ad (bj fU F nE F F) (ad (bn 0 uk F F F F) (ad (bM F F) (ae (aP F (fun hc=>?_) (fun hc=>?_))))))))
 ·have mU:b.k=3:=by omega
  refine ai (ad (cF (cs:=[.int .u8 3,nS]) qj de (by kernel_rfl)) (ao F (bV (vs:=[.int .u8 3,nS]) 4 de F F F F ?_)))
  refine ae (aN (az ?_))
  refine cL (i:=4) Tryz.results68 fU F de F F F ?_
  exact⟨[],Sub.z,[],⟨3,⟨none,0,[]⟩⟩,F,F,(aR (.inr mU)).symm,.inl (.inr F)⟩
 have xk: ¬b.k=3:=by omega
 have BT: ¬b.k=3:=xk
 refine aE (ai (ah F (ad (cP dJ F) (aj F (ae (aO (ai (ad (bj fU F g_ F F) (ad (bn 0 dJ F F F F) (ad (cP dJ F) (ah F (ae (aU ?_)))))))))))))
 refine dM (fun(j2:Nat) ρ O=> ∃(ob:Option Addr) (kb:Nat),O=[oI z8 69 b.cells,aq ob kb 72 5 (bX (((a.r.e.take j1).map (ep 0))++(b.r.e.take j2).map (ep (((a.r.e.take j1).map (ep 0)).length)))),oI z3 69 a.cells,oI z2 153 [(vN ((((a.r.e.take j1).map (ep 0)).length)-1)),(vI 0)],oI z1 69 [(.int .u8 0),nS]]∧j2≤b.r.e.length∧dt [(0,v8 op),(1,(.slice tb 2 tc)),(4,(.pointer (aD z1))),(5,(.slice ob ((((a.r.e.take j1).map (ep 0))++(b.r.e.take j2).map (ep (((a.r.e.take j1).map (ep 0)).length))).length) kb)),(6,(.pointer (aD z2))),(7,vI 1),(8,(.pointer (aD z8))),(9,vI (((a.r.e.take j1).map (ep 0)).length:Int)),(12,(.agg #[(vI 0),(vI 0)])),(13,(.slice tb 2 tc)),(14,vI 2),(15,vI 1),(27,(.slice b.r.b b.r.e.length b.r.c)),(28,vI (b.r.e.length:Int)),(29,vN j2)] ρ) (fun j2=>b.r.e.length-j2) 0 ?_ ?_
 ·exact⟨oa,ka,by rw[List.take_zero,fz,cT];rfl,bs _,⟨F,F,F,(ax (fun n9=>Value.slice oa n9 ka) (show((a.r.e.take j1).map (ep 0)).length=((((a.r.e.take j1).map (ep 0))++(b.r.e.take 0).map (ep (((a.r.e.take j1).map (ep 0)).length)))).length by rw[List.take_zero,fz,cT])),F,F,F,F,F,F,F,F,F,F,F,trivial⟩⟩
 rintro j2 ρ O ⟨ob,kb,rfl,hj,hH⟩
 obtain⟨gP,rfl⟩:=hH.elim
 clear hH
 refine ai (ad (cR F F) (ae (aO (aP F (fun hc=>?_) (fun hc=>?_)))))
 ·have iL:j2<b.r.e.length:=by omega
  have Dy:yE b.r.e.length b.r.e[j2]:=Pq.pc _ (aL iL)
  have TW:=Dy.a0;have zi:=Dy.a1;have Dz:=Dy.b0;have X4:=Dy.b1
  have Y4:a.r.e.length≤64:=Bf.len
  have hp6:b.r.e.length≤64:=Pq.len
  have hp7:(((a.r.e.take j1).map (ep 0))).length≤64:=by simp;omega
  refine aE (aO (aU (ai ?_)))
  refine ad (dU (i:=j2) dJ cK F F (aJ hb) iL (by rw[cz];omega)) (ad (eP (vs:=b.r.e[j2].cl) cp F cK F F (bw _) (aJ hb) (fH (ap iL))) ?_)
  refine ao F (bu cK F (fun z9=>?_))
  refine ao F (bV (vs:=b.r.e[j2].cl) 0 cK F F F F ?_)
  refine ae ?_
  refine gh (fun ρ O=>Sub [oI z9 72 [.int .u8 (((ep (((a.r.e.take j1).map (ep 0)).length) b.r.e[j2]).op:Nat):Int),.int .u8 (((ep (((a.r.e.take j1).map (ep 0)).length) b.r.e[j2]).p:Nat):Int),.int .u8 (((ep (((a.r.e.take j1).map (ep 0)).length) b.r.e[j2]).n:Nat):Int),vI (ep (((a.r.e.take j1).map (ep 0)).length) b.r.e[j2]).a,vI (ep (((a.r.e.take j1).map (ep 0)).length) b.r.e[j2]).b],oI z8 69 b.cells,aq ob kb 72 5 (bX (((a.r.e.take j1).map (ep 0))++(b.r.e.take j2).map (ep (((a.r.e.take j1).map (ep 0)).length)))),oI z3 69 a.cells,oI z2 153 [(vN ((((a.r.e.take j1).map (ep 0)).length)-1)),(vI 0)],oI z1 69 [(.int .u8 0),nS]] O∧dt [(0,v8 op),(1,(.slice tb 2 tc)),(4,(.pointer (aD z1))),(5,(.slice ob ((((a.r.e.take j1).map (ep 0))++(b.r.e.take j2).map (ep (((a.r.e.take j1).map (ep 0)).length))).length) kb)),(6,(.pointer (aD z2))),(7,vI 1),(8,(.pointer (aD z8))),(9,vI (((a.r.e.take j1).map (ep 0)).length:Int)),(11,(.pointer (aD z9))),(12,(.agg #[(vI 0),(vI 0)])),(13,(.slice tb 2 tc)),(14,vI 2),(15,vI 1),(27,(.slice b.r.b b.r.e.length b.r.c)),(28,vI (b.r.e.length:Int)),(29,vN j2)] ρ) ?_ ?_
  ·refine aO ?_
   refine be (ad (bj cp F dF F F) (ad (bn 0 fF F F F F) (ae (aU (aO (ai (ad (bM F F) (aj F (ae (aP F (fun hc=>?_) (fun hc=>?_)))))))))))
   ·have qk:b.r.e[j2].op=7:=by omega
    refine aE (aP F (fun hc=>?_) (fun hc=>?_))
    ·have qk:b.r.e[j2].op=7:=by omega
     refine be (ad (bj cp F bl F F) (ad (bn 0 dS F F F F) (ah F (ad (dK F F (by omega)) (ad (bj cp F bl F F) (ao F (bV (vs:=[(vI (b.r.e[j2].a+(((a.r.e.take j1).map (ep 0)).length:Int)))]) 0 bl F F F F ?_)))))))
     refine ae ?_
     exact⟨(by first|(rw[eh (by omega)];exact Sub.rf)|(rw[ei (by omega)];exact Sub.rf)|(rw[eS (by omega) (by omega)];exact Sub.rf)),(.of F)⟩
    have ql: ¬b.r.e[j2].op=7:=by omega
    refine aO (ai (ad (bM F F) (aj F (ae (aP F (fun hc=>?_) (fun hc=>?_))))))
    ·have hU:b.r.e[j2].op=4:=by omega
     refine aE (aP F (fun hc=>?_) (fun hc=>?_))
     ·have hU:b.r.e[j2].op=4:=by omega
      refine be (ad (bj cp F bl F F) (ad (bn 0 dS F F F F) (ah F (ad (dK F F (by omega)) (ad (bj cp F bl F F) (ad (bn 0 dS F F F F) (ah F (ad (dK F F (by omega)) (ad (bj cp F bl F F) (ao F (bV (vs:=[(vI (b.r.e[j2].a+(((a.r.e.take j1).map (ep 0)).length:Int)))]) 0 bl F F F F ?_)))))))))))
      refine ad (bj cp F bl F F) (ao F (bV (vs:=[(vI (b.r.e[j2].b+(((a.r.e.take j1).map (ep 0)).length:Int)))]) 0 bl F F F F ?_))
      refine ae ?_
      exact⟨(by first|(rw[eh (by omega)];exact Sub.rf)|(rw[ei (by omega)];exact Sub.rf)|(rw[eS (by omega) (by omega)];exact Sub.rf)),(.of F)⟩
     have ik: ¬b.r.e[j2].op=4:=by omega
     refine aE ?_
     exact⟨(by first|(rw[eh (by omega)];exact Sub.rf)|(rw[ei (by omega)];exact Sub.rf)|(rw[eS (by omega) (by omega)];exact Sub.rf)),(.of F)⟩
    have ik: ¬b.r.e[j2].op=4:=by omega
    refine ai (ad (bM F F) (aj F (ae (aP F (fun hc=>?_) (fun hc=>?_)))))
    ·have hU:b.r.e[j2].op=5:=by omega
     refine aE (aP F (fun hc=>?_) (fun hc=>?_))
     ·have hU:b.r.e[j2].op=5:=by omega
      refine be (ad (bj cp F bl F F) (ad (bn 0 dS F F F F) (ah F (ad (dK F F (by omega)) (ad (bj cp F bl F F) (ad (bn 0 dS F F F F) (ah F (ad (dK F F (by omega)) (ad (bj cp F bl F F) (ao F (bV (vs:=[(vI (b.r.e[j2].a+(((a.r.e.take j1).map (ep 0)).length:Int)))]) 0 bl F F F F ?_)))))))))))
      refine ad (bj cp F bl F F) (ao F (bV (vs:=[(vI (b.r.e[j2].b+(((a.r.e.take j1).map (ep 0)).length:Int)))]) 0 bl F F F F ?_))
      refine ae ?_
      exact⟨(by first|(rw[eh (by omega)];exact Sub.rf)|(rw[ei (by omega)];exact Sub.rf)|(rw[eS (by omega) (by omega)];exact Sub.rf)),(.of F)⟩
     have ik: ¬b.r.e[j2].op=5:=by omega
     refine aE ?_
     exact⟨(by first|(rw[eh (by omega)];exact Sub.rf)|(rw[ei (by omega)];exact Sub.rf)|(rw[eS (by omega) (by omega)];exact Sub.rf)),(.of F)⟩
    have ik: ¬b.r.e[j2].op=5:=by omega
    refine be (ad (bM F F) (aj F (ae (aP F (fun hc=>?_) (fun hc=>?_)))))
    ·have hU:b.r.e[j2].op=6:=by omega
     refine be (ad (bj cp F bl F F) (ad (bn 0 dS F F F F) (ah F (ad (dK F F (by omega)) (ad (bj cp F bl F F) (ad (bn 0 dS F F F F) (ah F (ad (dK F F (by omega)) (ad (bj cp F bl F F) (ao F (bV (vs:=[(vI (b.r.e[j2].a+(((a.r.e.take j1).map (ep 0)).length:Int)))]) 0 bl F F F F ?_)))))))))))
     refine ad (bj cp F bl F F) (ao F (bV (vs:=[(vI (b.r.e[j2].b+(((a.r.e.take j1).map (ep 0)).length:Int)))]) 0 bl F F F F ?_))
     refine ae ?_
     exact⟨(by first|(rw[eh (by omega)];exact Sub.rf)|(rw[ei (by omega)];exact Sub.rf)|(rw[eS (by omega) (by omega)];exact Sub.rf)),(.of F)⟩
    have ik: ¬b.r.e[j2].op=6:=by omega
    refine aE ?_
    exact⟨(by first|(rw[eh (by omega)];exact Sub.rf)|(rw[ei (by omega)];exact Sub.rf)|(rw[eS (by omega) (by omega)];exact Sub.rf)),(.of F)⟩
   have ql: ¬b.r.e[j2].op=7:=by omega
   refine be (ad (bM F F) (aj F (ae (aP F (fun hc=>?_) (fun hc=>?_)))))
   ·have qk:b.r.e[j2].op=8:=by omega
    refine be (ad (bj cp F bl F F) (ad (bn 0 dS F F F F) (ah F (ad (dK F F (by omega)) (ad (bj cp F bl F F) (ao F (bV (vs:=[(vI (b.r.e[j2].a+(((a.r.e.take j1).map (ep 0)).length:Int)))]) 0 bl F F F F ?_)))))))
    refine ae ?_
    exact⟨(by first|(rw[eh (by omega)];exact Sub.rf)|(rw[ei (by omega)];exact Sub.rf)|(rw[eS (by omega) (by omega)];exact Sub.rf)),(.of F)⟩
   have ql: ¬b.r.e[j2].op=8:=by omega
   refine aO (ai (ad (bM F F) (aj F (ae (aP F (fun hc=>?_) (fun hc=>?_))))))
   ·have hU:b.r.e[j2].op=4:=by omega
    refine aE (aP F (fun hc=>?_) (fun hc=>?_))
    ·have hU:b.r.e[j2].op=4:=by omega
     refine be (ad (bj cp F bl F F) (ad (bn 0 dS F F F F) (ah F (ad (dK F F (by omega)) (ad (bj cp F bl F F) (ad (bn 0 dS F F F F) (ah F (ad (dK F F (by omega)) (ad (bj cp F bl F F) (ao F (bV (vs:=[(vI (b.r.e[j2].a+(((a.r.e.take j1).map (ep 0)).length:Int)))]) 0 bl F F F F ?_)))))))))))
     refine ad (bj cp F bl F F) (ao F (bV (vs:=[(vI (b.r.e[j2].b+(((a.r.e.take j1).map (ep 0)).length:Int)))]) 0 bl F F F F ?_))
     refine ae ?_
     exact⟨(by first|(rw[eh (by omega)];exact Sub.rf)|(rw[ei (by omega)];exact Sub.rf)|(rw[eS (by omega) (by omega)];exact Sub.rf)),(.of F)⟩
    have ik: ¬b.r.e[j2].op=4:=by omega
    refine aE ?_
    exact⟨(by first|(rw[eh (by omega)];exact Sub.rf)|(rw[ei (by omega)];exact Sub.rf)|(rw[eS (by omega) (by omega)];exact Sub.rf)),(.of F)⟩
   have ik: ¬b.r.e[j2].op=4:=by omega
   refine ai (ad (bM F F) (aj F (ae (aP F (fun hc=>?_) (fun hc=>?_)))))
   ·have hU:b.r.e[j2].op=5:=by omega
    refine aE (aP F (fun hc=>?_) (fun hc=>?_))
    ·have hU:b.r.e[j2].op=5:=by omega
     refine be (ad (bj cp F bl F F) (ad (bn 0 dS F F F F) (ah F (ad (dK F F (by omega)) (ad (bj cp F bl F F) (ad (bn 0 dS F F F F) (ah F (ad (dK F F (by omega)) (ad (bj cp F bl F F) (ao F (bV (vs:=[(vI (b.r.e[j2].a+(((a.r.e.take j1).map (ep 0)).length:Int)))]) 0 bl F F F F ?_)))))))))))
     refine ad (bj cp F bl F F) (ao F (bV (vs:=[(vI (b.r.e[j2].b+(((a.r.e.take j1).map (ep 0)).length:Int)))]) 0 bl F F F F ?_))
     refine ae ?_
     exact⟨(by first|(rw[eh (by omega)];exact Sub.rf)|(rw[ei (by omega)];exact Sub.rf)|(rw[eS (by omega) (by omega)];exact Sub.rf)),(.of F)⟩
    have ik: ¬b.r.e[j2].op=5:=by omega
    refine aE ?_
    exact⟨(by first|(rw[eh (by omega)];exact Sub.rf)|(rw[ei (by omega)];exact Sub.rf)|(rw[eS (by omega) (by omega)];exact Sub.rf)),(.of F)⟩
   have ik: ¬b.r.e[j2].op=5:=by omega
   refine be (ad (bM F F) (aj F (ae (aP F (fun hc=>?_) (fun hc=>?_)))))
   ·have hU:b.r.e[j2].op=6:=by omega
    refine be (ad (bj cp F bl F F) (ad (bn 0 dS F F F F) (ah F (ad (dK F F (by omega)) (ad (bj cp F bl F F) (ad (bn 0 dS F F F F) (ah F (ad (dK F F (by omega)) (ad (bj cp F bl F F) (ao F (bV (vs:=[(vI (b.r.e[j2].a+(((a.r.e.take j1).map (ep 0)).length:Int)))]) 0 bl F F F F ?_)))))))))))
    refine ad (bj cp F bl F F) (ao F (bV (vs:=[(vI (b.r.e[j2].b+(((a.r.e.take j1).map (ep 0)).length:Int)))]) 0 bl F F F F ?_))
    refine ae ?_
    exact⟨(by first|(rw[eh (by omega)];exact Sub.rf)|(rw[ei (by omega)];exact Sub.rf)|(rw[eS (by omega) (by omega)];exact Sub.rf)),(.of F)⟩
   have ik: ¬b.r.e[j2].op=6:=by omega
   refine aE ?_
   exact⟨(by first|(rw[eh (by omega)];exact Sub.rf)|(rw[ei (by omega)];exact Sub.rf)|(rw[eS (by omega) (by omega)];exact Sub.rf)),(.of F)⟩
  rintro ρ O ⟨hS,hH⟩
  obtain⟨gP,rfl⟩:=hH.elim
  clear hH
  refine dv hS ?_
  refine be (ah F (ad (ew 0 cp F cK F F F) (ao F (cH (m:=1) (parts:=[(0,_)]) (cs:=[.int .u8 (((ep (((a.r.e.take j1).map (ep 0)).length) b.r.e[j2]).op:Nat):Int),.int .u8 (((ep (((a.r.e.take j1).map (ep 0)).length) b.r.e[j2]).p:Nat):Int),.int .u8 (((ep (((a.r.e.take j1).map (ep 0)).length) b.r.e[j2]).n:Nat):Int),vI (ep (((a.r.e.take j1).map (ep 0)).length) b.r.e[j2]).a,vI (ep (((a.r.e.take j1).map (ep 0)).length) b.r.e[j2]).b]) dJ cK (by decide) (by kernel_rfl) F (fun pF=>?_)))))
  refine ao F (dh 3 dJ dJ cK F F F F (by rw[cz]) (by decide) (Src.row (j:=0) F (by simp)) (by simp[fu]) (by simp only[c8,aF,ar,cw];omega) (by decide) (by decide) (fun yp qm=>?_))
  refine aj F (ae (be (ad (dx (a:=j2) (b:=1) F F (by omega)) (ah F (ae ?_)))))
  exact⟨j2+1,by omega,[oI z8 69 b.cells,aq yp qm 72 5 ((bX (((a.r.e.take j1).map (ep 0))++(b.r.e.take j2).map (ep (((a.r.e.take j1).map (ep 0)).length))))++[.int .u8 (((ep (((a.r.e.take j1).map (ep 0)).length) b.r.e[j2]).op:Nat):Int),.int .u8 (((ep (((a.r.e.take j1).map (ep 0)).length) b.r.e[j2]).p:Nat):Int),.int .u8 (((ep (((a.r.e.take j1).map (ep 0)).length) b.r.e[j2]).n:Nat):Int),vI (ep (((a.r.e.take j1).map (ep 0)).length) b.r.e[j2]).a,vI (ep (((a.r.e.take j1).map (ep 0)).length) b.r.e[j2]).b]),oI z3 69 a.cells,oI z2 153 [(vN ((((a.r.e.take j1).map (ep 0)).length)-1)),(vI 0)],oI z1 69 [(.int .u8 0),nS]],(by exact Sub.d (.d (.k (.k (.k (.k (.k .z))))))),yp,qm,by rw[jo iL,←aI,lA ((((a.r.e.take j1).map (ep 0))++(b.r.e.take j2).map (ep (((a.r.e.take j1).map (ep 0)).length))))];rfl,by omega,⟨F,F,F,(ax (fun n9=>Value.slice yp n9 qm) (show((((a.r.e.take j1).map (ep 0))++(b.r.e.take j2).map (ep (((a.r.e.take j1).map (ep 0)).length))).length)+1=((((a.r.e.take j1).map (ep 0))++(b.r.e.take (j2+1)).map (ep (((a.r.e.take j1).map (ep 0)).length)))).length by rw[jo iL,←aI];simp only[aF,bL,cN]<;>omega)),F,F,F,F,F,F,F,F,F,F,F,trivial⟩⟩
 have Fy: ¬j2<b.r.e.length:=by omega
 have Mt:j2=b.r.e.length:=by omega
 have Jc:0<b.r.e.length:=Pq.pos BT
 have hqa:a.r.e.length≤64:=Bf.len
 have X5:(((a.r.e.take j1).map (ep 0))++(b.r.e.take j2).map (ep ((a.r.e.take j1).map (ep 0)).length))=a.r.e++b.r.e.map (ep a.r.e.length):=by rw[T1,Mt,List.take_length]
 have hqb:b.r.e.length≤64:=Pq.len
 have X6:(((a.r.e.take j1).map (ep 0))++(b.r.e.take j2).map (ep ((a.r.e.take j1).map (ep 0)).length)).length=a.r.e.length+b.r.e.length:=by rw[aF,Jk,Mt];simp
 refine cG ?_
 refine be (ah F (ah F (ad (cP dJ F) (ad (sa (a:=((((a.r.e.take j1).map (ep 0))++(b.r.e.take j2).map (ep (((a.r.e.take j1).map (ep 0)).length))).length)) (b:=1) F F (by omega) (by omega)) (ad (js (i:=1) s5 bl F F (by decide)) (ao F (bV (vs:=[(vI ((((((a.r.e.take j1).map (ep 0))++(b.r.e.take j2).map (ep (((a.r.e.take j1).map (ep 0)).length))).length)-1:Nat):Int))]) 3 bl F F F F ?_)))))))
 refine ae (be (ad (bT (dK F F (by omega)) (v':=vI 2) F) (ah F (ae ?_))))
 refine nB [oI z8 69 b.cells,aq ob kb 72 5 (bX (((a.r.e.take j1).map (ep 0))++(b.r.e.take j2).map (ep (((a.r.e.take j1).map (ep 0)).length)))),oI z3 69 a.cells,oI z2 153 [(vN ((((a.r.e.take j1).map (ep 0)).length)-1)),(vI ((((((a.r.e.take j1).map (ep 0))++(b.r.e.take j2).map (ep (((a.r.e.take j1).map (ep 0)).length))).length)-1:Nat):Int))],oI z1 69 [(.int .u8 0),nS]] [(0,v8 op),(1,(.slice tb 2 tc)),(4,(.pointer (aD z1))),(5,(.slice ob ((((a.r.e.take j1).map (ep 0))++(b.r.e.take j2).map (ep (((a.r.e.take j1).map (ep 0)).length))).length) kb)),(6,(.pointer (aD z2))),(7,vI 1),(8,(.pointer (aD z8))),(9,vI (((a.r.e.take j1).map (ep 0)).length:Int)),(12,(.agg #[(vI 0),(vI 0)])),(13,(.slice tb 2 tc)),(14,vI 2),(15,vI 2)] F (.of F) (fun gP=>?_)
 refine T.round ?_
 refine ai (ad (aA (cR F F) (b':=false) F) (ae (aO (a_ F ?_))))
 refine cG ?_
 refine ai (ah F (ah F (ad (js (i:=0) s5 bl F F (by decide)) (ad (bn 3 dS F F F F) (ad (js (i:=1) s5 bl F F (by decide)) (ad (bn 3 dS F F F F) (ad (cF (cs:=[v8 op,(.int .u8 0),(.int .u8 0),(vN ((((a.r.e.take j1).map (ep 0)).length)-1)),(vI ((((((a.r.e.take j1).map (ep 0))++(b.r.e.take j2).map (ep (((a.r.e.take j1).map (ep 0)).length))).length)-1:Nat):Int))]) mV cK (by kernel_rfl)) (ao F (cH (m:=1) (parts:=[(0,_)]) (cs:=[v8 op,(.int .u8 0),(.int .u8 0),(vN ((((a.r.e.take j1).map (ep 0)).length)-1)),(vI ((((((a.r.e.take j1).map (ep 0))++(b.r.e.take j2).map (ep (((a.r.e.take j1).map (ep 0)).length))).length)-1:Nat):Int))]) dJ cK (by decide) (by kernel_rfl) F (fun nF=>?_))))))))))
 refine ao F (dh 2 dJ dJ cK F F F F (by rw[cz]) (by decide) (Src.row (j:=0) F (by simp)) (by simp[fu]) (by simp only[c8,aF,ar,cw];omega) (by decide) (by decide) (fun Bg D7=>?_))
 refine aj F (ae (aO (ai (ah F (ad (cP dJ F) (ad (gH F F) (ae (aP F (fun hc=>?_) (fun hc=>?_)))))))))
 ·have Jl:((((a.r.e.take j1).map (ep 0))++(b.r.e.take j2).map (ep (((a.r.e.take j1).map (ep 0)).length))).length)+1>64:=by omega
  have hL:=Jl
  refine ai (ad (cF (cs:=[.int .u8 3,nS]) qj de (by kernel_rfl)) (ao F (bV (vs:=[.int .u8 3,nS]) 5 de F F F F ?_)))
  refine ae (aN (az ?_))
  refine cL (i:=5) Tryz.results68 fU F de F F F ?_
  exact⟨[],Sub.z,[],⟨3,⟨none,0,[]⟩⟩,F,F,(D6 Re BT (by rw[X5]at hL;simpa using hL)).symm,.inl (.inr F)⟩
 have Jm: ¬((((a.r.e.take j1).map (ep 0))++(b.r.e.take j2).map (ep (((a.r.e.take j1).map (ep 0)).length))).length)+1>64:=by omega
 have hL:=Jm
 refine aE (ai (ah F (ad (cF (cs:=[(.int .u8 0),(.slice Bg (((((a.r.e.take j1).map (ep 0))++(b.r.e.take j2).map (ep (((a.r.e.take j1).map (ep 0)).length))).length)+1) D7)]) qj de (by kernel_rfl)) (ao F (bV (vs:=[(.int .u8 0),(.slice Bg (((((a.r.e.take j1).map (ep 0))++(b.r.e.take j2).map (ep (((a.r.e.take j1).map (ep 0)).length))).length)+1) D7)]) 5 de F F F F ?_)))))
 refine ae (aN (az ?_))
 refine cL (i:=5) Tryz.results68 fU F de F F F ?_
 have Rf:=Hs (op:=op) Re BT (by rw[X5]at hL;simpa using hL)
 exact⟨[aq Bg D7 72 5 ((bX (((a.r.e.take j1).map (ep 0))++(b.r.e.take j2).map (ep (((a.r.e.take j1).map (ep 0)).length))))++[v8 op,(.int .u8 0),(.int .u8 0),(vN ((((a.r.e.take j1).map (ep 0)).length)-1)),(vI ((((((a.r.e.take j1).map (ep 0))++(b.r.e.take j2).map (ep (((a.r.e.take j1).map (ep 0)).length))).length)-1:Nat):Int))])],(by exact Sub.d (.d (.k .z))),[⟨Bg,D7,(mT op a.pp b.pp).2⟩],⟨0,⟨Bg,D7,(mT op a.pp b.pp).2⟩⟩,ax (fun n9=>Value.agg #[.int .u8 0,.slice Bg n9 D7]) (show((((a.r.e.take j1).map (ep 0))++(b.r.e.take j2).map (ep (((a.r.e.take j1).map (ep 0)).length))).length)+1=((mT op a.pp b.pp).2).length by rw[Rf,X5];first|(simp;done)|(simp;omega)),ax (fun z=>[aq Bg D7 72 5 z]) (show(bX (((a.r.e.take j1).map (ep 0))++(b.r.e.take j2).map (ep (((a.r.e.take j1).map (ep 0)).length))))++[v8 op,(.int .u8 0),(.int .u8 0),(vN ((((a.r.e.take j1).map (ep 0)).length)-1)),(vI ((((((a.r.e.take j1).map (ep 0))++(b.r.e.take j2).map (ep (((a.r.e.take j1).map (ep 0)).length))).length)-1:Nat):Int))]=bX ((mT op a.pp b.pp).2) by rw[Rf,X5,lA];first|(simp[bX,eE.cells];done)|(simp[bX,eE.cells];omega)),by rw[Rf];rfl,.inl (.inl (List.mem_singleton.2 F))⟩
theorem oe {a b:PR} (h:a.k=1):xg a.pp b.pp=b.pp:=aR h
theorem og {a b:PR} (h: ¬a.k=1) (h2:b.k=1∨(a.k≠3∧a.r.e=b.r.e)):xg a.pp b.pp=a.pp:=(ay h).trans (aR h2)
theorem D8 {a b:PR} (h: ¬a.k=1) (h2: ¬(b.k=1∨(a.k≠3∧a.r.e=b.r.e))):xg a.pp b.pp=mT 5 a.pp b.pp:=(ay h).trans (ay h2)
theorem oh {a b:PR} (h:a.k=1∨b.k=2):yD a.pp b.pp=a.pp:=aR h
theorem ol {a b:PR} (h: ¬(a.k=1∨b.k=2)) (h2:b.k=1∨a.k=2):yD a.pp b.pp=b.pp:=(ay h).trans (aR h2)
theorem D_ {a b:PR} (h: ¬(a.k=1∨b.k=2)) (h2: ¬(b.k=1∨a.k=2)):yD a.pp b.pp=mT 4 a.pp b.pp:=(ay h).trans (ay h2)
theorem zn {a:PR} (h:a.k=1∨a.k=2):u7 a.pp=(2,[⟨2,0,0,0,0⟩]):=aR h
theorem Hu {a:PR} (h: ¬(a.k=1∨a.k=2)):u7 a.pp=pE 8 a.pp:=ay h
theorem Rg (w:World) [dB Tryz.prog w] (a b:PR) (ha:Sl w a.r.b (bX a.r.e)) (Bf:fB a.pp) (hb:Sl w b.r.b (bX b.r.e)) (Pq:fB b.pp):
  cA Tryz.prog 40 [a.val,b.val] w (TZ 72 [a,b] (xg a.pp b.pp)):=by
 refine aG func40 F ntmps40 F ?_
 refine ai (ao F (dE (cs:=a.cells) F F (fun z1=>?_)))
 refine ao F (dE (cs:=b.cells) F F (fun z2=>?_))
 refine ao F (bu de F (fun z3=>?_))
 refine ae (aO (aU (ai (ad (bj fU F nE F F) (ad (bn 2 uk F F F F) (ad (bM F F) (aj F (ae (aP F (fun hc=>?_) (fun hc=>?_))))))))))
 ·have Y5:a.k=1:=by omega
  refine ai (ad (ew 1 fU F de F F F) (ao F (bV (vs:=b.cells) 0 de F F F F ?_)))
  refine ae (aN (az ?_))
  refine cL (i:=0) Tryz.results40 fU F de F F F ?_
  exact⟨[],Sub.z,[],b,F,F,Eq.symm (by first|exact oe ‹_›|exact og ‹_› hc|exact oh (by omega)|exact ol (by omega) (by omega)),.inr ⟨b,by simp,F⟩⟩
 have Y6: ¬a.k=1:=by omega
 refine gh (fun ρ O=>Sub [oI z3 69 [(.int .u8 0),nS],oI z2 69 b.cells,oI z1 69 a.cells] O∧dt [(0,a.val),(1,b.val),(2,(.pointer (aD z1))),(3,(.pointer (aD z2))),(4,(.pointer (aD z3))),(5,.bool (decide (((a.k:Nat):Int)=1))),(10,.bool (decide (b.k=1∨(a.k≠3∧a.r.e=b.r.e))))] ρ) ?_ ?_
 ·refine be ?_
  refine ad (bj fU F nE F F) (ad (bn 1 uk F F F F) ?_)
  by_cases h13:((b.k:Nat):Int)=1
  ·refine ad (aA (bM F F) (av h13)) ?_
   refine ah F (aS F F (aS F F (aS F F (aS F F (aS F F (aS F F (aS F F ?_)))))))
   refine aS F F (aS F F (aS F F (ad (cg F F) (aj F (ae ?_)))))
   exact⟨(by exact Sub.rf),⟨F,F,F,F,F,F,(ax Value.bool (av (by exact .inl (by omega))).symm),trivial⟩⟩
  refine ad (aA (bM F F) (ak h13)) (ah F (aB F F (bj fU F nE F F) (aB F F (bn 2 uk F F F F) ?_)))
  by_cases h17:((a.k:Nat):Int)≠3
  ·refine aB F F (aA (dP F F) (av h17)) ?_
   refine aB F F (aK F) (aB F F (bj fU F g_ F F) (aB F F (bn 2 dJ F F F F) (aB F F (bj fU F g_ F F) (aB F F (bn 1 dJ F F F F) ?_))))
   refine iv F F F (bm UZ (aX fun w1 hI=>(haveI:=ey hI;M_ w1 a.r.b b.r.b a.r.c b.r.c a.r.e b.r.e (hI.sl ha) (hI.sl hb) (by have:=Bf.len;have:a.r.e.length≤64:=this;omega))) F ?_)
   rintro vr O' ⟨N,rfl,rfl,rfl⟩
   refine aB F F (cg F F) (ad (b_ F F) (aj F (ae ?_)))
   exact⟨(by exact Sub.rf),⟨F,F,F,F,F,F,(ax Value.bool (decide_eq_decide.2 ⟨fun h=>.inr ⟨by omega,h⟩,fun h=>h.elim (fun h=>by omega) (fun h=>h.2)⟩)),trivial⟩⟩
  refine aB F F (aA (dP F F) (ak h17)) (aB F F (aK F) (aS F F (aS F F (aS F F (aS F F (aS F F (aB F F (b_ F F) ?_)))))))
  refine ad (b_ F F) (aj F (ae ?_))
  exact⟨(by exact Sub.rf),⟨F,F,F,F,F,F,(ax Value.bool (ak (by intro h9;rcases h9 with h9|h9<;>omega)).symm),trivial⟩⟩
 rintro ρ O ⟨hS,hH⟩
 obtain⟨gP,rfl⟩:=hH.elim
 clear hH
 refine dv hS ?_
 refine aP F (fun hc=>?_) (fun hc=>?_)
 ·refine aO ?_
  refine be (ad (ew 2 fU F de F F F) (ao F (bV (vs:=a.cells) 0 de F F F F ?_)))
  refine ae (aN (az ?_))
  refine cL (i:=0) Tryz.results40 fU F de F F F ?_
  exact⟨[],Sub.z,[],a,F,F,Eq.symm (by first|exact oe ‹_›|exact og ‹_› hc|exact oh (by omega)|exact ol (by omega) (by omega)),.inr ⟨a,by simp,F⟩⟩
 let eJ:List Value:=[v8 a.k,(.slice a.r.b a.r.e.length a.r.c),v8 b.k,(.slice b.r.b b.r.e.length b.r.c)]
 refine aE (ai (ad (ew 2 fU F de F F F) (ad (ew 1 fU F de F F F) (ao F (cH (m:=2) (parts:=[(0,_),(1,_)]) (cs:=eJ) lU de (by decide) (by kernel_rfl) F (fun z4=>?_))))))
 refine ao F (bm Jo (aX fun w1 hI=>(haveI:=ey hI;Jn w1 5 (aD z4) 2 a b (hI.gW (mG 0 F)) (hI.sl ha) Bf (hI.sl hb) Pq)) F ?_)
 rintro vr O' ⟨N,rfl,qs,c,rfl,rfl,DA,Iu⟩
 refine ef (O':=([aq (aD z4) 2 69 2 eJ,oI z3 69 [(.int .u8 0),nS],oI z2 69 b.cells,oI z1 69 a.cells]++(dr 72 qs))) (by exact gK [] _ (dr 72 qs)) ?_
 refine ao F (bV (vs:=c.cells) 1 de F F F F ?_)
 refine ae (aN (az ?_))
 refine cL (i:=1) Tryz.results40 fU F de F F F ?_
 exact⟨dr 72 qs,(by exact Sub.d (.d (.d (.d .rf)))),qs,c,F,F,DA.trans (D8 ‹_› hc).symm,Iu⟩
theorem Pr (w:World) [dB Tryz.prog w] (a b:PR) (ha:Sl w a.r.b (bX a.r.e)) (Bf:fB a.pp) (hb:Sl w b.r.b (bX b.r.e)) (Pq:fB b.pp):
  cA Tryz.prog 41 [a.val,b.val] w (TZ 72 [a,b] (yD a.pp b.pp)):=by
 refine aG func41 F ntmps41 F ?_
 refine ai (ao F (dE (cs:=a.cells) F F (fun z1=>?_)))
 refine ao F (dE (cs:=b.cells) F F (fun z2=>?_))
 refine ao F (bu de F (fun z3=>?_))
 refine ae (aO (aU (ai (ad (bj fU F nE F F) (ad (bn 2 uk F F F F) ?_)))))
 by_cases h8:((a.k:Nat):Int)=1
 ·refine ad (aA (bM F F) (av h8)) ?_
  refine ah F (aS F F (aS F F (aS F F (ad (cg F F) (aj F (ae ?_))))))
  refine bW F ?_
  refine ai (ad (ew 2 fU F de F F F) (ao F (bV (vs:=a.cells) 0 de F F F F ?_)))
  refine ae (aN (az ?_))
  refine cL (i:=0) Tryz.results41 fU F de F F F ?_
  exact⟨[],Sub.z,[],a,F,F,Eq.symm (by first|exact oe ‹_›|exact og ‹_› hc|exact oh (by omega)|exact ol (by omega) (by omega)),.inr ⟨a,by simp,F⟩⟩
 refine ad (aA (bM F F) (ak h8)) (ah F (aB F F (bj fU F nE F F) (aB F F (bn 1 uk F F F F) ?_)))
 by_cases h12:((b.k:Nat):Int)=2
 ·refine aB F F (aA (bM F F) (av h12)) ?_
  refine ad (b_ F F) (aj F (ae ?_))
  refine bW F ?_
  refine ai (ad (ew 2 fU F de F F F) (ao F (bV (vs:=a.cells) 0 de F F F F ?_)))
  refine ae (aN (az ?_))
  refine cL (i:=0) Tryz.results41 fU F de F F F ?_
  exact⟨[],Sub.z,[],a,F,F,Eq.symm (by first|exact oe ‹_›|exact og ‹_› hc|exact oh (by omega)|exact ol (by omega) (by omega)),.inr ⟨a,by simp,F⟩⟩
 refine aB F F (aA (bM F F) (ak h12)) (ad (b_ F F) (aj F (ae (a_ F (ai (ad (bj fU F nE F F) (ad (bn 1 uk F F F F) ?_)))))))
 by_cases h18:((b.k:Nat):Int)=1
 ·refine ad (aA (bM F F) (av h18)) ?_
  refine ah F (aS F F (aS F F (aS F F (ad (cg F F) (aj F (ae ?_))))))
  refine bW F ?_
  refine ai (ad (ew 1 fU F de F F F) (ao F (bV (vs:=b.cells) 0 de F F F F ?_)))
  refine ae (aN (az ?_))
  refine cL (i:=0) Tryz.results41 fU F de F F F ?_
  exact⟨[],Sub.z,[],b,F,F,Eq.symm (by first|exact oe ‹_›|exact og ‹_› hc|exact oh (by omega)|exact ol (by omega) (by omega)),.inr ⟨b,by simp,F⟩⟩
 refine ad (aA (bM F F) (ak h18)) (ah F (aB F F (bj fU F nE F F) (aB F F (bn 2 uk F F F F) ?_)))
 by_cases h22:((a.k:Nat):Int)=2
 ·refine aB F F (aA (bM F F) (av h22)) ?_
  refine ad (b_ F F) (aj F (ae ?_))
  refine bW F ?_
  refine ai (ad (ew 1 fU F de F F F) (ao F (bV (vs:=b.cells) 0 de F F F F ?_)))
  refine ae (aN (az ?_))
  refine cL (i:=0) Tryz.results41 fU F de F F F ?_
  exact⟨[],Sub.z,[],b,F,F,Eq.symm (by first|exact oe ‹_›|exact og ‹_› hc|exact oh (by omega)|exact ol (by omega) (by omega)),.inr ⟨b,by simp,F⟩⟩
 let gr:List Value:=[v8 a.k,(.slice a.r.b a.r.e.length a.r.c),v8 b.k,(.slice b.r.b b.r.e.length b.r.c)]
 refine aB F F (aA (bM F F) (ak h22)) (ad (b_ F F) (aj F (ae (a_ F (aE (ai (ad (ew 2 fU F de F F F) (ad (ew 1 fU F de F F F) (ao F (cH (m:=2) (parts:=[(0,_),(1,_)]) (cs:=gr) lU de (by decide) (by kernel_rfl) F (fun z4=>?_)))))))))))
 refine ao F (bm Jo (aX fun w1 hI=>(haveI:=ey hI;Jn w1 4 (aD z4) 2 a b (hI.gW (mG 0 F)) (hI.sl ha) Bf (hI.sl hb) Pq)) F ?_)
 rintro vr O' ⟨N,rfl,qs,c,rfl,rfl,DA,Iu⟩
 refine ef (O':=([aq (aD z4) 2 69 2 gr,oI z3 69 [(.int .u8 0),nS],oI z2 69 b.cells,oI z1 69 a.cells]++(dr 72 qs))) (by exact gK [] _ (dr 72 qs)) ?_
 refine ao F (bV (vs:=c.cells) 1 de F F F F ?_)
 refine ae (aN (az ?_))
 refine cL (i:=1) Tryz.results41 fU F de F F F ?_
 exact⟨dr 72 qs,(by exact Sub.d (.d (.d (.d .rf)))),qs,c,F,F,DA.trans (D_ (by omega) (by omega)).symm,Iu⟩
theorem Rh (w:World) [dB Tryz.prog w] (a:PR) (ha:Sl w a.r.b (bX a.r.e)) (Bf:fB a.pp):
  cA Tryz.prog 42 [a.val] w (TZ 72 [a] (u7 a.pp)):=by
 refine aG func42 F ntmps42 F ?_
 refine ai (ao F (dE (cs:=a.cells) F F (fun z1=>?_)))
 refine ao F (bu de F (fun z2=>?_))
 refine ae (aO (ai (ad (bj fU F nE F F) (ad (bn 1 uk F F F F) ?_))))
 by_cases h5:((a.k:Nat):Int)=1
 ·refine ad (aA (bM F F) (av h5)) ?_
  refine ah F (aS F F (aS F F (aS F F (ad (cg F F) (ae ?_)))))
  refine bW F ?_
  refine ai (ad (cF (cs:=[.int .u8 2,(.int .u8 0),(.int .u8 0),(vI 0),(vI 0)]) mV cK (by kernel_rfl)) (ao F (bm BU (aX fun w1 hI=>(haveI:=ey hI;xj w1 2 ⟨2,0,0,0,0⟩)) F ?_)))
  rintro vr O' ⟨N,rfl,qs,c,rfl,rfl,DA,Iu⟩
  refine ef (O':=([oI z2 69 [(.int .u8 0),nS],oI z1 69 a.cells]++(dr 72 qs))) (by exact gK [] _ (dr 72 qs)) ?_
  refine ao F (bV (vs:=c.cells) 0 de F F F F ?_)
  refine ae (aN (az ?_))
  refine cL (i:=0) Tryz.results42 fU F de F F F ?_
  exact⟨dr 72 qs,(by exact Sub.d (.d .rf)),qs,c,F,F,DA.trans (zn (by omega)).symm,Iu.elim .inl (fun h=>absurd h (by simp))⟩
 refine ad (aA (bM F F) (ak h5)) (ah F (aB F F (bj fU F nE F F) (aB F F (bn 1 uk F F F F) ?_)))
 by_cases h9:((a.k:Nat):Int)=2
 ·refine aB F F (aA (bM F F) (av h9)) ?_
  refine ad (b_ F F) (ae ?_)
  refine bW F ?_
  refine ai (ad (cF (cs:=[.int .u8 2,(.int .u8 0),(.int .u8 0),(vI 0),(vI 0)]) mV cK (by kernel_rfl)) (ao F (bm BU (aX fun w1 hI=>(haveI:=ey hI;xj w1 2 ⟨2,0,0,0,0⟩)) F ?_)))
  rintro vr O' ⟨N,rfl,qs,c,rfl,rfl,DA,Iu⟩
  refine ef (O':=([oI z2 69 [(.int .u8 0),nS],oI z1 69 a.cells]++(dr 72 qs))) (by exact gK [] _ (dr 72 qs)) ?_
  refine ao F (bV (vs:=c.cells) 0 de F F F F ?_)
  refine ae (aN (az ?_))
  refine cL (i:=0) Tryz.results42 fU F de F F F ?_
  exact⟨dr 72 qs,(by exact Sub.d (.d .rf)),qs,c,F,F,DA.trans (zn (by omega)).symm,Iu.elim .inl (fun h=>absurd h (by simp))⟩
 refine aB F F (aA (bM F F) (ak h9)) (ad (b_ F F) (ae (a_ F (aE (ai (ad (ew 1 fU F de F F F) (ao F (cH (m:=1) (parts:=[(0,_)]) (cs:=a.cells) lU de (by decide) (by kernel_rfl) F (fun z3=>?_)))))))))
 refine ao F (bm Jo (aX fun w1 hI=>(haveI:=ey hI;Rc w1 8 (aD z3) 1 a (hI.gW (mG 0 F)) (hI.sl ha) Bf)) F ?_)
 rintro vr O' ⟨N,rfl,qs,c,rfl,rfl,DA,Iu⟩
 refine ef (O':=([aq (aD z3) 1 69 2 a.cells,oI z2 69 [(.int .u8 0),nS],oI z1 69 a.cells]++(dr 72 qs))) (by exact gK [] _ (dr 72 qs)) ?_
 refine ao F (bV (vs:=c.cells) 1 de F F F F ?_)
 refine ae (aN (az ?_))
 refine cL (i:=1) Tryz.results42 fU F de F F F ?_
 exact⟨dr 72 qs,(by exact Sub.d (.d (.d .rf))),qs,c,F,F,DA.trans (Hu (by omega)).symm,Iu⟩
end Go.Proofs.YtgdbfideeeegmaaGreatDoor

namespace Go.Lx
open Go.RowKit
section
variable {P:Program} {base:World} {n:Nat} {ops:Array Oper} {ds:List Deferred} {M:List Item} {Qf:Exit→Act→World→Prop} {ρ:Env} {O:List Item} {l:List Oper}
def TG (P:Program) (base:World) (n:Nat) (ops:Array Oper) (ds:List Deferred) (M:List Item) (Qf:Exit→Act→World→Prop) (l:List Oper) (ρ:Env) (O:List Item):Prop:=
 ∀a w,Ag n ds a ρ→Inv base (O++M) w→wpListIn (Fr none) 0 P ops Qf l a w
theorem TG.region {id:Nat} {l:List Oper} {a:Act} {w:World} (h:TG P base n l.toArray ds M Qf l ρ O) (ha:Ag n ds a ρ) (hI:Inv base (O++M) w):(Code.region id l.toArray false).wpIn (Fr none) 0 P Qf a w:=wpIn_region_lit (h a w ha hI)
theorem TG.nil (h: ∀a w,Ag n ds a ρ→Inv base (O++M) w→Qf .normal a w):TG P base n ops ds M Qf [] ρ O:=fun a w ha hI=>wpListIn_nil (h a w ha hI)
theorem gA {o:Oper} (hg:o.guard=none) (h:LT P none base n o ρ O (fun gR O'=>TG P base n ops ds M Qf l gR O')):TG P base n ops ds M Qf (o::l) ρ O:=
 fun a w ha hI=>wpListIn_plain hg fun next fm=>h a w M ds ha hI next _ fun a' _ _ w' h1 h2 h3=>fm a' w' (h3 a' w' h1 h2)
theorem eg {d:Nat} {op:Op} {t:TypeId} {p:String} {af:Array Edge} {v:Value} (h:QT P base ⟨some d,op,t,p,af,none⟩ ρ O v) (hk:TG P base n ops ds M Qf l (oX ρ d v) O) (hn:Nat.blt d n=true:=by rfl):TG P base n ops ds M Qf (⟨some d,op,t,p,af,none⟩::l) ρ O:=
 gA F (eO F hn h hk)
theorem TG.defer {t:TypeId} {p:String} {af:Array Edge} {yC:Array TypeId} {x:Operand} {f:FuncId} {gv:Array Value} (hx:ev ρ x=.func (.func f) #[] gv)
  (hk:TG P base n ops ({target:=.fn (.func f) gv,args:= #[]}::ds) M Qf l ρ O):TG P base n ops ds M Qf (⟨none,.defer ⟨.value x,#[],yC⟩,t,p,af,none⟩::l) ρ O:=fun a w ha hI=>
 wpListIn_plain F fun next fm=>by
  refine⟨fun _ _=>trivial,?_⟩
  have hr:(Oper.semAt (Fr none).round a.eval ⟨none,.defer ⟨.value x,#[],yC⟩,t,p,af,none⟩).run P w=.ok (.defer {target:=.fn (.func f) gv,args:= #[]}) w:=by
   rw[ha.eval]
   rw[show(Fr none).round=none from F,Oper.semAt_none]
   simp[execOp,resolve,Deferred.ofValue,hx]
  rw[hr,Oper.uponIn_defer]
  refine fm _ _ (hk _ _ ⟨fun t=>?_,?_,?_⟩ hI)
  ·exact ha.tmp t
  ·exact ha.size
  ·show _::a.defers=_;rw[ha.defers]
theorem mz {o:Oper} {j tj:Nat} {want:Bool} (hg:o.guard=some (j,want)) (hj:(ops[j]?).bind (·.dst)=some tj) (hw:ρ tj=.bool want)
  (h:LT P none base n o ρ O (fun gR O'=>TG P base n ops ds M Qf l gR O')):TG P base n ops ds M Qf (o::l) ρ O:=by
 intro a w ha hi
 refine wpListIn_step fun next fm=>?_
 have hy:=jA (ops:=ops) ha hj
 rw[hw]at hy
 have p6:Region.wanted o (yielded ops a.tmps)=true:=by unfold Region.wanted;rw[hg];simp[hy,Mq]
 rw[aR p6]
 exact h a w M ds ha hi next _ fun a' _ _ w' h1 h2 h3=>fm a' w' (h3 a' w' h1 h2)
theorem vq {d:Nat} {op:Op} {t:TypeId} {p:String} {af:Array Edge} {j tj:Nat} {want:Bool} (hj:(ops[j]?).bind (·.dst)=some tj) (hw:(Mq (ρ tj)==some want)=false) (hk:TG P base n ops ds M Qf l (oX ρ d undef) O) (hn:Nat.blt d n=true:=by rfl):
  TG P base n ops ds M Qf (⟨some d,op,t,p,af,some (j,want)⟩::l) ρ O:=by
 intro a w ha hi
 refine wpListIn_step fun next fm=>?_
 have hy:=jA (ops:=ops) ha hj
 have p6:Region.wanted ⟨some d,op,t,p,af,some (j,want)⟩ (yielded ops a.tmps)=false:=by unfold Region.wanted;simp only[hy];exact hw
 rw[p6]
 exact⟨fun _ _=>trivial,fm _ _ (hk _ _ (ha.put hn undef) hi)⟩
theorem ES {d:Nat} {t:TypeId} {p:String} {af:Array Edge} {f:FuncId} {fn:Func} {tm:Value} {args:List Operand} {yC:Array TypeId} {vs:List Value} {R:Value→List Item→Prop} {Z:Prop} (he:Enters P f fn)
  (hc: ∀w,Inv base (O++M) w→dA P w tm f vs [] R Z) (ha:G_ ρ args=vs) (hz: ∀a w,Ag n ds a ρ→Inv base (O++M) w→Z→Qf (.panic [{v:=tm,recovered:=false}]) a w) (h: ∀v N,R v N→TG P base n ops ds M Qf l (oX ρ d v) (N++O)) (hn:Nat.blt d n=true:=by rfl):
  TG P base n ops ds M Qf (⟨some d,.call ⟨.value (.func f),args.toArray,yC⟩,t,p,af,none⟩::l) ρ O:=by
 subst ha
 intro a w ha hi
 refine wpListIn_plain F fun next fm=>?_
 have sU: ¬fn.name= "runtime.NumGoroutine" :=by simpa using he.2.1
 obtain⟨bd,M5⟩:=Option.isSome_iff_exists.1 he.2.2
 have hr:(execOp a.eval ⟨some d,.call ⟨.value (.func f),args.toArray,yC⟩,t,p,af,none⟩).run P w=.ok (.enter f (G_ ρ args).toArray) w:=by
  rw[ha.eval,r_]
  simp[kK,ev,Deferred.ofValue,invoke,callFunc,he.1,sU,M5]
 refine lJ (by intro c e;cases e) ?_
 rw[hr,Oper.uponIn_enter]
 refine⟨fun e=>by simp[Fr,Fence.wide]at e,mQ (Calls.mono (hc w hi w [] (Inv.refl w)) ?_)⟩
 rintro e w' (⟨v,O',rfl,nT,hR⟩|⟨rfl,nT,hZ⟩)
 ·refine fm _ _ (h v O' hR _ _ (ha.put hn v) ?_)
  have:=hi.call nT
  simpa[aI]using this
 ·refine hz _ _ ha ?_ hZ
  have:=hi.call nT
  simpa using this
end
end Go.Lx

namespace Go.Proofs.YtgdbfideeeegmaaGreatDoor
open Go.Lx Go.RowKit _root_.Go.Proofs.Tryz
theorem Oq (w:World) (p q:Addr):CallsDIn Fence.wide 0 Tryz.prog 45 #[.pointer (some p),.pointer (some q)] .returning w fun e u' w'=>e=.returned (.tuple #[])∧u'=.returning∧w'=w:=by
 refine callsDIn_of_wpSIn func45 F trivial fun Ty cs hu=>?_
 apply wpSIn_seq
 apply wpSIn_region
 simp[wpOpsSIn,go_sem,recoverD,hu,ntmps45,Exit.thenS,Fence.wide]
 apply wpSIn_seq
 apply wpSIn_region
 simp[wpOpsSIn,go_sem,hu,Exit.thenS]
 refine wpSIn_cond (t:=false) (by simp[Act.eval,Array.replicate]) ?_
 simp only[Bool.false_eq_true,if_false]
 refine wpSIn_of_wpIn F (wpIn_skip ?_)
 cases Ty
 simp_all[bodyPostS,results,Tryz.results45]
def zD:List Value:=[.int .i64 0,.int .i64 0,.slice none 0 0,.slice none 0 0]
set_option maxRecDepth 20000 in
theorem Ld (base:World) (z6 z7:Nat) (M:List Lx.Item) (w:World) (T0:TypeId) (x:Value) (hI:Inv base ([oI z6 25 zD,oI z7 27 [.int .i64 0]]++M) w):
  CallsDIn Fence.wide 0 Tryz.prog 45 #[.pointer (some ⟨z6,0,none⟩),.pointer (some ⟨z7,0,none⟩)] (.panicking [{v:=.iface T0 x,recovered:=false}]) w fun e u' w'=>
   e=.returned (.tuple #[])∧u'=.panicking [{v:=.iface T0 x,recovered:=true}]∧Inv base ([oI z6 25 zD,oI z7 27 [.int .i64 10]]++M) w':=by
 refine callsDIn_of_wpSIn func45 F trivial fun Ty cs hu=>?_
 apply wpSIn_seq
 apply wpSIn_region
 simp[wpOpsSIn,go_sem,recoverD,hu,ntmps45,Exit.thenS,Fence.wide]
 apply wpSIn_seq
 apply wpSIn_region
 simp[wpOpsSIn,go_sem,Exit.thenS]
 refine wpSIn_cond (t:=true) (by simp[Act.eval,Array.replicate]) ?_
 simp only[if_true]
 refine wpSIn_of_wpIn F ?_
 refine TG.region (base:=base) (n:=7) (ds:=[]) (M:=M) (ρ:=fun t=>Array.getD _ t undef) (O:=[oI z6 25 zD,oI z7 27 [.int .i64 0]]) ?_ ⟨fun t=>rfl,by simp,F⟩ hI
 refine eg (cF (cs:=zD) jj bK (by kernel_rfl)) ?_
 refine gA F (vJ (v:=.agg zD.toArray) (vs:=zD) 0 bK F F F F F F (by simp) ?_)
 refine gA F (vJ (v:=.int .i64 10) (vs:=[.int .i64 10]) 1 iV F F F F F F (by simp) ?_)
 refine TG.nil fun a w' ha nT=>?_
 have hd:=ha.defers
 cases Ty
 simp_all[bodyPostS,results,Tryz.results45]
 exact nT
end Go.Proofs.YtgdbfideeeegmaaGreatDoor

namespace Go.Proofs.YtgdbfideeeegmaaGreatDoor
open Go.Lx Go.RowKit _root_.Go.Proofs.Tryz
def Z1 (E:Nat) (lg:Int) (G:cM→Prop) (Z:Prop) (v:Value) (O':List Lx.Item):Prop:=
 (E≠0∧v=.tuple #[.agg zD.toArray,.int .i64 (E:Int)]∧O'=[])∨(E=0∧ ¬(1≤lg∧lg≤4096)∧v=.tuple #[.agg zD.toArray,.int .i64 1]∧O'=[])∨
 (E=0∧(1≤lg∧lg≤4096)∧((∃M k,v=.tuple #[dV M k,.int .i64 0]∧O'=[dI 56 4 3 M k]∧G M)∨(v=.tuple #[.agg zD.toArray,.int .i64 10]∧O'=[]∧Z)))
abbrev RF (base:World) (M:List Lx.Item) (R:Value→List Lx.Item→Prop):Ending→World→Prop:=fun e MZ=> ∃v O',e=.returned v∧Inv base (O'++M) MZ∧R v O'
theorem CX {base w:World} {M O:List Lx.Item} {tmps:Array Value} {ρ:Env} {R:Value→List Lx.Item→Prop} (ht: ∀t,tmps.getD t undef=ρ t) (hI:Inv base (O++M) w) (hr:ru Tryz.prog base Tryz.f19 ρ O R):LeavesInM Fence.wide 0 Tryz.prog Tryz.f19 tmps (RF base M R) [] .returning w:=by
 obtain⟨v,yn,yy,hR,hr⟩:=hr.ex
 exact⟨v,hr w tmps hI.left ht,v,yn,F,hI.j_ yy.oM,hR⟩
theorem dfr (z6 z7:Nat) (w:World):(invoke (.fn (.func 45) #[.pointer (some ⟨z6,0,none⟩),.pointer (some ⟨z7,0,none⟩)]) #[]).run Tryz.prog w=.ok (.enter 45 #[.pointer (some ⟨z6,0,none⟩),.pointer (some ⟨z7,0,none⟩)]) w:=by
 have sU: ¬Tryz.f45.name= "runtime.NumGoroutine" :=by simpa using K9.2.1
 obtain⟨bd,M5⟩:=Option.isSome_iff_exists.1 K9.2.2
 simp[invoke,callFunc,K9.1,sU,M5]
theorem Qu (base:World) [dB Tryz.prog base] (eb:Option Addr) (en ec:Nat) (vars:Int) (E:Nat) (lg:Int) (G:cM→Prop) (Z:Prop)
  (Z2: ∀w1 [dB Tryz.prog w1],Inv base [] w1→cA Tryz.prog 28 [.slice eb en ec,.int .i64 vars] w1 fun v N=>v=.int .i64 (E:Int)∧N=[])
  (hC:E=0→1≤lg→lg≤4096→ ∀(w8:World) [dB Tryz.prog w8] (cb:Nat),Inv base [] w8→Sl w8 (some ⟨cb,0,none⟩) [.slice eb en ec,.int .i64 vars,.int .i64 lg]→dA Tryz.prog w8 (.iface 163 (.agg #[])) 46 [d_ (some ⟨cb,0,none⟩) 0] [] (fun v N=> ∃M k',v=dV M k'∧N=[dI 56 4 3 M k']∧G M) Z):
  cd Tryz.prog base 19 [.slice eb en ec,.int .i64 vars,.int .i64 lg] [] (Z1 E lg G Z):=by
 intro w M hI
 rw[←callsIn_wide (n:=0)]
 refine callsIn_of_wp_marks func19 F trivial ?_
 have ha:Ag 32 [] {tmps:=([.slice eb en ec,.int .i64 vars,.int .i64 lg]:List Value).toArray++Array.replicate (Tryz.f19.ntmps-([.slice eb en ec,.int .i64 vars,.int .i64 lg]:List Value).toArray.size) undef,defers:=[]} (entry [.slice eb en ec,.int .i64 vars,.int .i64 lg]):=by
  rw[ntmps19]
  refine⟨fun t=>?_,by simp,F⟩
  show(_++_:Array Value).getD t undef=List.getD _ t undef
  rw[dp,aw]
  by_cases h:t<3
  ·rw[Array.getElem?_append_left (by simpa using h)];simp
  ·rw[Array.getElem?_append_right (by simpa using h),Array.getElem?_replicate,bQ (by simpa using h)]
   split<;>rfl
 refine wpIn_seq ?_
 refine TG.region (O:=[]) ?_ ha hI
 refine gA F (bu bK F (fun z6=>?_))
 refine gA F (bu iV F (fun z7=>?_))
 refine TG.nil fun a w ha hI=>?_
 refine wpIn_seq ?_
 refine wpIn_seq ?_
 refine TG.region ?_ ha hI
 refine eg (aK F) (eg (aK F) ?_)
 refine gA F (bm Xd (aX (fun w1 hI=>(haveI:=ey hI;Z2 w1 hI.mq))) F ?_)
 rintro vr O' ⟨N,rfl,rfl,rfl⟩
 refine eg (cq F) ?_
 refine TG.nil fun a w ha hI=>?_
 refine wpIn_seq ?_
 refine TG.region ?_ ha hI
 refine eg (aK F) (eg (dP F F) ?_)
 refine TG.nil fun a w ha hI=>?_
 by_cases hE:E=0
 case neg=>
  refine wpIn_cond (t:=true) (by rw[ha.eval];show Value.bool (decide ((E:Int)≠0))=Value.bool true;rw[av (show(E:Int)≠0 by omega)]) ?_
  simp only[if_true]
  refine wpIn_seq ?_
  refine TG.region ?_ ha hI
  refine eg (cF (cs:=zD) jj bK (by kernel_rfl)) (eg (aK F) ?_)
  refine gA F (vJ (v:=.agg zD.toArray) (vs:=zD) 1 bK F F F F F F (by decide) ?_)
  refine gA F (vJ (v:=.int .i64 (E:Int)) (vs:=[.int .i64 (E:Int)]) 0 iV F F F F F F (by simp) ?_)
  refine TG.nil fun a w ha hI=>wpIn_ret ?_
  show LeavesInM _ _ _ _ _ _ a.defers _ w
  rw[ha.defers]
  refine CX ha.tmp hI (az ?_)
  refine iA (i:=1) (j:=0) Tryz.results19 cS F bK ow F F F F F F ?_
  exact⟨[],Sub.z,.inl ⟨hE,F,F⟩⟩
 subst hE
 refine wpIn_cond (t:=false) (by rw[ha.eval];rfl) ?_
 simp only[Bool.false_eq_true,if_false]
 refine wpIn_skip ?_
 refine wpIn_seq ?_
 refine wpIn_seq ?_
 refine TG.region (base:=base) (n:=32) (ds:=[]) (M:=M) (ρ:=fun t=>a.tmps.getD t undef) (O:=[dR z7 (.cells #[.int .i64 0] 27 (0,0)),dR z6 (.cells #[.int .i64 0,.int .i64 0,.slice none 0 0,.slice none 0 0] 25 (0,0))]) ?_ ⟨fun t=>rfl,ha.size,ha.defers⟩ hI
 have h2:a.tmps.getD 2 undef=.int .i64 lg:=by rw[ha.tmp];rfl
 have h0:a.tmps.getD 0 undef=.slice eb en ec:=by rw[ha.tmp];rfl
 have h1:a.tmps.getD 1 undef=.int .i64 vars:=by rw[ha.tmp];rfl
 have h6:a.tmps.getD 6 undef=.pointer (some ⟨z6,0,none⟩):=by rw[ha.tmp];rfl
 have h7:a.tmps.getD 7 undef=.pointer (some ⟨z7,0,none⟩):=by rw[ha.tmp];rfl
 generalize T9:(fun t=>a.tmps.getD t undef)=ρ
 have r2:ρ 2=.int .i64 lg:=by rw[←T9];exact h2
 have r0:ρ 0=.slice eb en ec:=by rw[←T9];exact h0
 have r1:ρ 1=.int .i64 vars:=by rw[←T9];exact h1
 have r6:ρ 6=.pointer (some ⟨z6,0,none⟩):=by rw[←T9];exact h6
 have r7:ρ 7=.pointer (some ⟨z7,0,none⟩):=by rw[←T9];exact h7
 clear h2 h0 h1 h6 h7 T9
 by_cases Hk:lg<1
 ·refine eg (aK F) (eg (bT (cR (a:=lg) (b:=1) r2 F) (v':=.bool true) (by rw[av Hk])) (eg (aK F) ?_))
  refine vq F F (vq F F (eg (cg F F) ?_))
  refine TG.nil fun a w ha hI=>?_
  refine wpIn_cond (t:=true) (by rw[ha.eval];rfl) ?_
  simp only[if_true]
  refine wpIn_seq ?_
  refine TG.region ?_ ha hI
  refine eg (cF (cs:=zD) jj bK (by kernel_rfl)) ?_
  refine gA F (vJ (v:=.agg zD.toArray) (vs:=zD) 1 bK r6 F F F F F (by decide) ?_)
  refine gA F (vJ (v:=.int .i64 1) (vs:=[.int .i64 1]) 0 iV r7 F F F F F (by decide) ?_)
  refine TG.nil fun a w ha hI=>wpIn_ret ?_
  show LeavesInM _ _ _ _ _ _ a.defers _ w
  rw[ha.defers]
  refine CX ha.tmp hI (az ?_)
  refine iA (i:=1) (j:=0) Tryz.results19 cS F bK ow F r6 r7 F F F ?_
  exact⟨[],Sub.z,.inr (.inl ⟨F,by omega,F,F⟩)⟩
 ·refine eg (aK F) (eg (bT (cR (a:=lg) (b:=1) r2 F) (v':=.bool false) (by rw[ak Hk])) (eg (aK F) ?_))
  by_cases DW:4096<lg
  ·refine mz F F F (eO F F (aK F) ?_)
   refine mz F F F (eO F F (bT (gH (a:=lg) (b:=4096) r2 F) (v':=.bool true) (by rw[av DW])) ?_)
   refine eg (b_ F F) ?_
   refine TG.nil fun a w ha hI=>?_
   refine wpIn_cond (t:=true) (by rw[ha.eval];rfl) ?_
   simp only[if_true]
   refine wpIn_seq ?_
   refine TG.region ?_ ha hI
   refine eg (cF (cs:=zD) jj bK (by kernel_rfl)) ?_
   refine gA F (vJ (v:=.agg zD.toArray) (vs:=zD) 1 bK r6 F F F F F (by decide) ?_)
   refine gA F (vJ (v:=.int .i64 1) (vs:=[.int .i64 1]) 0 iV r7 F F F F F (by decide) ?_)
   refine TG.nil fun a w ha hI=>wpIn_ret ?_
   show LeavesInM _ _ _ _ _ _ a.defers _ w
   rw[ha.defers]
   refine CX ha.tmp hI (az ?_)
   refine iA (i:=1) (j:=0) Tryz.results19 cS F bK ow F r6 r7 F F F ?_
   exact⟨[],Sub.z,.inr (.inl ⟨F,by omega,F,F⟩)⟩
  refine mz F F F (eO F F (aK F) ?_)
  refine mz F F F (eO F F (bT (gH (a:=lg) (b:=4096) r2 F) (v':=.bool false) (by rw[ak DW])) ?_)
  refine eg (b_ F F) ?_
  refine TG.nil fun a w ha hI=>?_
  refine wpIn_cond (t:=false) (by rw[ha.eval];rfl) ?_
  simp only[Bool.false_eq_true,if_false]
  refine wpIn_skip ?_
  refine wpIn_seq ?_
  refine TG.region ?_ ha hI
  refine eg (bT e8 (v':=.func (.func 45) #[] #[.pointer (some ⟨z6,0,none⟩),.pointer (some ⟨z7,0,none⟩)]) (by show Value.func _ #[] #[ρ 6,ρ 7]=_;rw[r6,r7])) ?_
  refine TG.defer (f:=45) (gv:= #[.pointer (some ⟨z6,0,none⟩),.pointer (some ⟨z7,0,none⟩)]) F ?_
  refine TG.nil fun a w ha hI=>?_
  refine wpIn_seq ?_
  refine TG.region ?_ ha hI
  refine eg (bT (aK F) (v':=.slice eb en ec) r0) (eg (bT (aK F) (v':=.int .i64 vars) r1) (eg (bT (aK F) (v':=.int .i64 lg) r2) ?_))
  refine eg (cF (cs:=[.slice eb en ec,.int .i64 vars,.int .i64 lg]) SZ Xb (by kernel_rfl)) ?_
  refine gA F (dE (v:=.agg #[.slice eb en ec,.int .i64 vars,.int .i64 lg]) (cs:=[.slice eb en ec,.int .i64 vars,.int .i64 lg]) F F (fun zc=>?_))
  refine eg (cq F) ?_
  refine TG.nil fun a w ha hI=>?_
  refine wpIn_seq ?_
  refine TG.region ?_ ha hI
  refine eg (aK F) ?_
  refine ES (tm:=.iface 163 (.agg #[])) Xe (vs:=[d_ (some ⟨zc,0,none⟩) 0]) (R:=fun v N=> ∃M k',v=dV M k'∧N=[dI 56 4 3 M k']∧G M) (Z:=Z) (fun w hI=>(haveI:=ey hI;hC F (by omega) (by omega) w zc hI.mq (hI.jZ (mG 0 F)))) F (fun a w ha hI hZ=>?_) ?_
  ·show LeavesInM _ _ _ _ _ _ a.defers _ w
   rw[ha.defers]
   refine⟨by simp,.inr ⟨fun h=>by simp[Fence.wide]at h,_,_,45,_,F,dfr z6 z7 w,fun _ _=>trivial,?_⟩⟩
   refine(Ld base z6 z7 M w 163 (.agg #[]) (hI.j_ (Sub.oM (aC [2,1] F)))).mono ?_
   rintro e u' w' ⟨rfl,rfl,nT⟩
   refine CX ha.tmp nT (az ?_)
   refine iA (i:=0) (j:=1) Tryz.results19 cS F bK ow F r6 r7 F F F ?_
   exact⟨[],Sub.z,.inr (.inr ⟨F,by omega,.inr ⟨F,F,hZ⟩⟩)⟩
  rintro v N ⟨Md,kd,rfl,rfl,hG⟩
  refine gA F (vJ (v:=dV Md kd) (vs:=dC Md kd) 3 bK r6 F F F F F (show 0+4≤4 by decide) ?_)
  refine gA F (vJ (v:=.int .i64 0) (vs:=[.int .i64 0]) 2 iV r7 F F F F F (by decide) ?_)
  refine TG.nil fun a w ha hI=>wpIn_ret ?_
  show LeavesInM _ _ _ _ _ _ a.defers _ w
  rw[ha.defers]
  refine⟨by simp,.inr ⟨fun h=>by simp[Fence.wide]at h,_,_,45,_,F,dfr z6 z7 w,fun _ _=>trivial,?_⟩⟩
  refine(Oq w _ _).mono ?_
  rintro e u' w' ⟨rfl,rfl,rfl⟩
  refine CX ha.tmp hI (az ?_)
  refine iA (i:=3) (j:=2) Tryz.results19 cS F bK ow F r6 r7 F F F ?_
  exact⟨[dI 56 4 3 Md kd],aC [0] F,.inr (.inr ⟨F,by omega,.inl ⟨Md,kd,F,F,hG⟩⟩)⟩
end Go.Proofs.YtgdbfideeeegmaaGreatDoor

namespace Go.Lx
open Go.RowKit Go.Proofs.YtgdbfideeeegmaaGreatDoor
def jx (e:List eE):Nat→Nat→Rx
 |0,_=>.none
 |f+1,i=>
  let x:=e.getD i ⟨0,0,0,0,0⟩
  if x.op=1 then .none else if x.op=2 then .empty else if x.op=3 then .letter x.p x.n
  else if x.op=4 then .je (jx e f x.a.toNat) (jx e f x.b.toNat)else if x.op=5 then .jq (jx e f x.a.toNat) (jx e f x.b.toNat)else if x.op=6 then .and (jx e f x.a.toNat) (jx e f x.b.toNat)
  else if x.op=7 then .not (jx e f x.a.toNat)else if x.op=8 then .star (jx e f x.a.toNat)else if x.op=9 then .ahead (jx e f x.a.toNat)else .behind (jx e f x.a.toNat)
theorem q_ {v:Nat} {e:List eE} {fs:List Nat} (h:jP v e=.ok fs) {i:Nat} (hi:i<e.length):fY v e[i]=0:=by
 obtain⟨gs,h1,h2,h3,_⟩:=pg h i (Nat.le_of_lt hi)
 cases hs:gC v gs e[i]with
 |error n=>rw[jI hi h1 hs]at h;cases h
 |ok b=>exact(tF (by rw[h2];exact h3) hs).2.1
theorem or_zero {a b:Nat} (h:(a|||b)=0):a=0∧b=0:=by
 have h1:a≤a|||b:=Nat.left_le_or
 have h2:b≤a|||b:=Nat.right_le_or
 omega
theorem lD {v:Nat} {x:eE} (h:fY v x=0):1≤x.op∧x.op≤10∧(x.op≠3→x.p=0∧x.n=0)∧(dQ x.op<1→x.a=0)∧(dQ x.op<2→x.b=0):=by
 unfold fY at h
 split at h
 ·omega
 ·rename_i h1
  split at h
  ·omega
  ·rename_i h2
   refine⟨by omega,by omega,fun h3=>or_zero (by
    by_cases h4:(x.p|||x.n)=0
    ·exact h4
    ·exact absurd (Or.inl ⟨h3,h4⟩) h2),fun h3=>?_,fun h3=>?_⟩
   ·by_cases h4:x.a=0
    ·exact h4
    ·exact absurd (Or.inr (Or.inl ⟨h3,h4⟩)) h2
   ·by_cases h4:x.b=0
    ·exact h4
    ·exact absurd (Or.inr (Or.inr ⟨h3,h4⟩)) h2
theorem j7 {v:Nat} {e:List eE} {fs:List Nat} (h:jP v e=.ok fs) (oz: ∀x∈e,x.p<256∧x.n<256): ∀(f i:Nat),i<f→i<e.length→sJ e (jx e f i) i
 |0,i,hf,hi=>absurd hf (by omega)
 |f+1,i,hf,hi=>by
  have ht:=qq h i hi
  have hs:=lD (q_ h hi)
  have hg:e[i]? =some e[i]:=ap hi
  have hx:=oz _ (aL hi)
  unfold jx
  simp only[oE hi]
  obtain⟨x,Ej⟩: ∃x,x=e[i]:=⟨_,F⟩
  rw[←Ej]at ht hs hg hx⊢
  obtain⟨o,p,n,a,b⟩:=x
  clear Ej
  obtain⟨h1,h2,h3,h4,h5⟩:=hs
  simp only at ht h1 h2 h3 h4 h5 hx
  have hk:o=1∨o=2∨o=3∨o=4∨o=5∨o=6∨o=7∨o=8∨o=9∨o=10:=by omega
  rcases hk with rfl|rfl|rfl|rfl|rfl|rfl|rfl|rfl|rfl|rfl
  ·obtain⟨rfl,rfl⟩:=h3 (by decide)
   have ha:=h4 (by decide);have hb:=h5 (by decide)
   subst ha hb
   exact hg
  ·obtain⟨rfl,rfl⟩:=h3 (by decide)
   have ha:=h4 (by decide);have hb:=h5 (by decide)
   subst ha hb
   exact hg
  ·have ha:=h4 (by decide);have hb:=h5 (by decide)
   subst ha hb
   exact⟨hg,hx⟩
  ·obtain⟨rfl,rfl⟩:=h3 (by decide)
   obtain⟨j,rfl,hj⟩:=ht.1 (by decide)
   obtain⟨k,rfl,hk⟩:=ht.2 (by decide)
   exact⟨j,k,hg,j7 h oz f j (by omega) (by omega),j7 h oz f k (by omega) (by omega)⟩
  ·obtain⟨rfl,rfl⟩:=h3 (by decide)
   obtain⟨j,rfl,hj⟩:=ht.1 (by decide)
   obtain⟨k,rfl,hk⟩:=ht.2 (by decide)
   exact⟨j,k,hg,j7 h oz f j (by omega) (by omega),j7 h oz f k (by omega) (by omega)⟩
  ·obtain⟨rfl,rfl⟩:=h3 (by decide)
   obtain⟨j,rfl,hj⟩:=ht.1 (by decide)
   obtain⟨k,rfl,hk⟩:=ht.2 (by decide)
   exact⟨j,k,hg,j7 h oz f j (by omega) (by omega),j7 h oz f k (by omega) (by omega)⟩
  ·obtain⟨rfl,rfl⟩:=h3 (by decide)
   have hb:=h5 (by decide)
   subst hb
   obtain⟨j,rfl,hj⟩:=ht.1 (by decide)
   exact⟨j,hg,j7 h oz f j (by omega) (by omega)⟩
  ·obtain⟨rfl,rfl⟩:=h3 (by decide)
   have hb:=h5 (by decide)
   subst hb
   obtain⟨j,rfl,hj⟩:=ht.1 (by decide)
   exact⟨j,hg,j7 h oz f j (by omega) (by omega)⟩
  ·obtain⟨rfl,rfl⟩:=h3 (by decide)
   have hb:=h5 (by decide)
   subst hb
   obtain⟨j,rfl,hj⟩:=ht.1 (by decide)
   exact⟨j,hg,j7 h oz f j (by omega) (by omega)⟩
  ·obtain⟨rfl,rfl⟩:=h3 (by decide)
   have hb:=h5 (by decide)
   subst hb
   obtain⟨j,rfl,hj⟩:=ht.1 (by decide)
   exact⟨j,hg,j7 h oz f j (by omega) (by omega)⟩
theorem ws {v:Nat} {e:List eE} {fs:List Nat} (h:jP v e=.ok fs): ∀(f i:Nat),i<f→i<e.length→(mh e f i false=true→(jx e f i).plain=true)∧(mh e f i true=true→(jx e f i).wf=true)
 |0,i,hf,hi=>absurd hf (by omega)
 |f+1,i,hf,hi=>by
  have ht:=qq h i hi
  have hs:=lD (q_ h hi)
  have e1:=iC (f:=f) (fr:=false) hi
  have e2:=iC (f:=f) (fr:=true) hi
  rw[e1,e2]
  unfold jx
  simp only[oE hi]
  clear e1 e2
  obtain⟨x,Ej⟩: ∃x,x=e[i]:=⟨_,F⟩
  rw[←Ej]at ht hs⊢
  obtain⟨o,p,n,a,b⟩:=x
  clear Ej
  obtain⟨h1,h2,h3,h4,h5⟩:=hs
  simp only at ht h1 h2⊢
  clear h3 h4 h5
  have one:1≤dQ o→((mh e f a.toNat false=true→(jx e f a.toNat).plain=true)∧(mh e f a.toNat true=true→(jx e f a.toNat).wf=true)):=fun hh=>by
   obtain⟨j,rfl,hj⟩:=ht.1 hh
   exact ws h f j (by omega) (by omega)
  have two:2≤dQ o→((mh e f b.toNat false=true→(jx e f b.toNat).plain=true)∧(mh e f b.toNat true=true→(jx e f b.toNat).wf=true)):=fun hh=>by
   obtain⟨j,rfl,hj⟩:=ht.2 hh
   exact ws h f j (by omega) (by omega)
  clear ht
  have hk:o=1∨o=2∨o=3∨o=4∨o=5∨o=6∨o=7∨o=8∨o=9∨o=10:=by omega
  rcases hk with rfl|rfl|rfl|rfl|rfl|rfl|rfl|rfl|rfl|rfl<;>simp[dQ,Rx.plain,Rx.wf]at one two⊢ <;>simp_all
theorem Ay {v:Nat} {e:List eE} {fs:List Nat} (h:jP v e=.ok fs) {i:Nat} (hi:i<e.length):fs.getD i 0≤i∧
  (dQ e[i].op=1→0<i∧e[i].a=(i:Int)-1∧fs.getD i 0=fs.getD (i-1) 0)∧
  (dQ e[i].op=2→0<i∧e[i].b=(i:Int)-1∧0<fs.getD (i-1) 0∧e[i].a=(fs.getD (i-1) 0:Int)-1∧fs.getD (i-1) 0≤i-1∧fs.getD i 0=fs.getD e[i].a.toNat 0)∧(dQ e[i].op=0→fs.getD i 0=i):=by
 obtain⟨gs,h1,h2,h3,h4⟩:=pg h i (Nat.le_of_lt hi)
 obtain⟨gs',k1,k2,k3,k4⟩:=pg h (i+1) hi
 cases hs:gC v gs e[i]with
 |error n=>rw[jI hi h1 hs]at h;cases h
 |ok b=>
  have hn:=qN hi h1 hs
  rw[k1]at hn
  injection hn with hn
  have iM:i<fs.length:=by
   have:(fs.take (i+1)).length=i+1:=by rw[←k4];exact k2
   rw[cw]at this;omega
  have hb:fs.getD i 0=b:=by
   have:gs'.getD i 0=b:=by rw[hn,aw,bY (by omega),h2,gL];rfl
   rw[k4,aw,List.getElem?_take,aR (by omega)]at this
   rw[aw];exact this
  have hj: ∀j,j<i→gs.getD j 0=fs.getD j 0:=fun j hj=>by
   rw[h4,aw,aw,List.getElem?_take,aR hj]
  obtain⟨b1,_,b2,b3,b4⟩:=tF (by rw[h2];exact h3) hs
  rw[h2]at b1 b2 b3 b4
  refine⟨by omega,fun h5=>?_,fun h5=>?_,fun h5=>by rw[hb];exact b4 h5⟩
  ·obtain⟨c1,c2,c3⟩:=b2 h5
   exact⟨c1,c2,by rw[hb,c3,hj _ (by omega)]⟩
  ·obtain⟨c1,c2,c3,c4,c5⟩:=b3 h5
   have hx:=h3 (i-1) (by omega)
   rw[hj _ (by omega)]at c3 c4 hx
   refine⟨c1,c2,c3,c4,hx,?_⟩
   rw[hb,c5,hj _ (by omega)]
theorem AU {v:Nat} {e:List eE} {fs:List Nat} (h:jP v e=.ok fs): ∀(f i:Nat),i<f→i<e.length→2*(jx e f i).lv+fs.getD i 0≤i+2
 |0,i,hf,hi=>absurd hf (by omega)
 |f+1,i,hf,hi=>by
  obtain⟨g0,g1,g2,g3⟩:=Ay h hi
  unfold jx
  simp only[oE hi]
  by_cases h4:e[i].op=4∨e[i].op=5
  ·have hc:dQ e[i].op=2:=by unfold dQ;rw[aR (by omega)]
   obtain⟨c1,c2,c3,c4,c5,c6⟩:=g2 hc
   have ha:=AU h f (fs.getD (i-1) 0-1) (by omega) (by omega)
   have hb:=AU h f (i-1) (by omega) (by omega)
   have ea:e[i].a.toNat=fs.getD (i-1) 0-1:=by omega
   have eb:e[i].b.toNat=i-1:=by omega
   rw[ea]at c6
   rw[ea,eb]
   rcases h4 with h4|h4
   ·simp only[h4]
    show 2*((jx e f _).lv+(jx e f _).lv)+_≤_
    omega
   ·simp only[h4]
    show 2*((jx e f _).lv+(jx e f _).lv)+_≤_
    omega
  ·rw[ay (show¬e[i].op=4 by omega),ay (show¬e[i].op=5 by omega)]
   repeat' split
   all_goals (show 2*1+_≤_;omega)
theorem sx {v:Nat} {e:List eE} {fs:List Nat} (h:jP v e=.ok fs) (hl: ∀x∈e,x.op≠9∧x.op≠10): ∀(f i:Nat),i<f→i<e.length→(jx e f i).plain=true
 |0,i,hf,hi=>absurd hf (by omega)
 |f+1,i,hf,hi=>by
  have ht:=qq h i hi
  have hs:=lD (q_ h hi)
  have hx:=hl _ (aL hi)
  unfold jx
  simp only[oE hi]
  obtain⟨x,Ej⟩: ∃x,x=e[i]:=⟨_,F⟩
  rw[←Ej]at ht hs hx⊢
  obtain⟨o,p,n,a,b⟩:=x
  clear Ej
  obtain⟨h1,h2,h3,h4,h5⟩:=hs
  simp only at ht h1 h2 hx⊢
  clear h3 h4 h5
  have one:1≤dQ o→(jx e f a.toNat).plain=true:=fun hh=>by
   obtain⟨j,rfl,hj⟩:=ht.1 hh
   exact sx h hl f j (by omega) (by omega)
  have two:2≤dQ o→(jx e f b.toNat).plain=true:=fun hh=>by
   obtain⟨j,rfl,hj⟩:=ht.2 hh
   exact sx h hl f j (by omega) (by omega)
  clear ht
  have hk:o=1∨o=2∨o=3∨o=4∨o=5∨o=6∨o=7∨o=8:=by omega
  rcases hk with rfl|rfl|rfl|rfl|rfl|rfl|rfl|rfl<;>simp[dQ,Rx.plain]at one two⊢ <;>simp_all
end Go.Lx

namespace Go.Lx
open Go.RowKit
theorem kC {v B:Nat} {M:cM} {p:Lg} (h:gf (v:Int) B M p) (hB:B≤4096):gf (v:Int) B (minOf v p) p:=by rw[←gU h hB];exact h
theorem AV {v:Nat} {a:cM} (h:a.vars=(v:Int)):dT a=2^v:=by unfold dT;rw[h];rfl
theorem mx {v B:Nat} (hv:v≤6) (hB:B≤4096) {a b:cM} {p q:Lg} {n m:Nat} (ha:HasL (v:Int) n a p) (hb:HasL (v:Int) m b q) (h:AF a b (dT a) B):gf (v:Int) B (minOf v (jS p q)) (jS p q):=by
 rw[show AF a b (dT a) B=AF a b (2^v) B by rw[AV ha.vars]]at h
 obtain⟨M,hM⟩:=F6 (fin:=HL (GC a b) zy (RS b)) hv hB h
 refine kC (M:=M) (hM.to fun u hu=>?_) hB
 rw[Ct ha.valid hb.valid (by rw[ha.vars,hb.vars]) (fun x hx=>by rw[AV ha.vars];simpa using hu x hx)]
 exact nh (fun w hw=>ha.iI w hw) (fun w hw=>hb.iI w hw) hu
theorem CY {v B:Nat} (hv:v≤6) (hB:B≤4096) {a:cM} {p:Lg} {n:Nat} (ha:HasL (v:Int) n a p) (h:Eo a (dT a) B):gf (v:Int) B (minOf v (oA p)) (oA p):=by
 rw[show Eo a (dT a) B=Eo a (2^v) B by rw[AV ha.vars]]at h
 obtain⟨M,hM⟩:=F6 (fin:=HL (GS a) Bj (N1 a)) hv hB h
 refine kC (M:=M) (hM.to fun u hu=>?_) hB
 rw[zz ha.valid (fun x hx=>by rw[AV ha.vars];simpa using hu x hx)]
 exact qC (fun w hw=>ha.iI w hw) hu
theorem dG {v B:Nat} (hv:v≤6) (hB:B≤4096): ∀ {t:Rx},t.plain=true→jY v t B→gf (v:Int) B (minOf v (gj t)) (gj t)
 | .none,_,h=>kC (Ku hv h) hB
 | .empty,_,h=>by
  have h1:=(nG (gm 0 0) hv (bs 1)).nX
  exact kC (M:=fJ (Er v 0 (gm 0 0))) ⟨h1.toHasL.le h,h1.min⟩ hB
 | .letter p n,_,h=>by
  have h1:=(nG (gm p n) hv (a8 1)).nX
  exact kC (M:=fJ (Er v 1 (gm p n))) ⟨h1.toHasL.le h,h1.min⟩ hB
 | .je a b,hp,h=>by
  simp only[Rx.plain,aM]at hp
  exact mx hv hB (dG hv hB hp.1 h.1).toHasL (dG hv hB hp.2 h.2.1).toHasL h.2.2
 | .jq a b,hp,h=>by
  simp only[Rx.plain,aM]at hp
  exact kC (Yg (dG hv hB hp.1 h.1) (dG hv hB hp.2 h.2.1) h.2.2.1 h.2.2.2) hB
 | .and a b,hp,h=>by
  simp only[Rx.plain,aM]at hp
  exact kC (Yg (dG hv hB hp.1 h.1) (dG hv hB hp.2 h.2.1) h.2.2.1 h.2.2.2) hB
 | .not a,hp,h=>kC (notM (dG hv hB (t:=a) hp h.1).toHasL h.2) hB
 | .star a,hp,h=>CY hv hB (dG hv hB (t:=a) hp h.1).toHasL h.2
 | .ahead a,hp,h=>absurd hp (by simp[Rx.plain])
 | .behind a,hp,h=>absurd hp (by simp[Rx.plain])
theorem Lh {v B:Nat} (hv:v≤6) (hB:B≤4096): ∀ {t:Rx},t.wf=true→okB v t B→(∀a b,t≠.je a b)→(∀a b,t≠.jq a b)→ ∃p,gf (v:Int) B (pL v t).d p
 | .none,hw,h,_,_=>⟨_,dG hv hB (t:=.none) hw h⟩
 | .empty,hw,h,_,_=>⟨_,dG hv hB (t:=.empty) hw h⟩
 | .letter p n,hw,h,_,_=>⟨_,dG hv hB (t:=.letter p n) hw h⟩
 | .and a b,hw,h,_,_=>⟨_,dG hv hB (t:=.and a b) hw h⟩
 | .not a,hw,h,_,_=>⟨_,dG hv hB (t:=.not a) hw h⟩
 | .star a,hw,h,_,_=>⟨_,dG hv hB (t:=.star a) hw h⟩
 | .je a b,_,_,h,_=>absurd F (h a b)
 | .jq a b,_,_,_,h=>absurd F (h a b)
 | .ahead a,hw,h,_,_=>⟨_,mx hv hB (dG hv hB (t:=a) hw h.1).toHasL (fG hv) h.2⟩
 | .behind a,hw,h,_,_=>⟨_,mx hv hB (fG hv) (dG hv hB (t:=a) hw h.1).toHasL h.2⟩
def vu (v B:Nat) (l:Lf):Prop:=(∃p,gf (v:Int) B l.d p)∧(l.op=0∨l.op=9∨l.op=10)
def Li (ls:List Lf):Prop:= ∀k,k<ls.length→ ∀j∈(lf ls k).fo,k<j∧j<ls.length
theorem Lj {ls:List Lf} {k i:Nat} {q:Lf} (hk:k<ls.length):lf (ls.set k q) i=if i=k then q else lf ls i:=by
 unfold lf
 rw[aw,aw]
 by_cases e:i=k
 ·subst e;rw[List.getElem?_set_self hk,aR F];rfl
 ·rw[List.getElem?_set_ne (fun h=>e h.symm),ay e]
theorem F7 {v B:Nat}: ∀(b x:List Nat) (ls:List Lf),(∀l∈ls,vu v B l)→Li ls→(∀k∈b,k<ls.length∧ ∀j∈x,k<j∧j<ls.length)→(∀l∈l6 ls b x,vu v B l)∧Li (l6 ls b x)
 | [],x,ls,h1,h2,_=>⟨h1,h2⟩
 |k::b,x,ls,h1,h2,h3=>by
  obtain⟨hk,hj⟩:=h3 k (by simp)
  refine F7 b x (ls.set k {lf ls k with fo:=(lf ls k).fo++x}) (fun l hl=>?_) (fun i hi j se=>?_) (fun k2 pO=>?_)
  ·rcases List.mem_or_eq_of_mem_set hl with hl|rfl
   ·exact h1 l hl
   ·have h9:=h1 _ (ko hk);exact⟨h9.1,h9.2⟩
  ·rw[eX]at hi⊢
   rw[Lj hk]at se
   split at se
   ·rename_i e
    subst e
    rcases List.mem_append.1 se with h|h
    ·exact h2 i hk j h
    ·exact hj j h
   ·exact h2 i hi j se
  ·rw[eX];exact h3 k2 (by simp[pO])
theorem Li.snoc {ls:List Lf} {q:Lf} (h:Li ls) (hq:q.fo=[]):Li (ls++[q]):=fun k hk j hj=>by
 rw[aF,List.length_singleton]at hk⊢
 unfold lf at hj
 rw[aw]at hj
 by_cases e:k<ls.length
 ·rw[bI e]at hj
  have:=h k e j (by unfold lf;rw[aw];exact hj)
  omega
 ·rw[bY (by omega),show k-ls.length=0 by omega]at hj
  simp[hq]at hj
theorem Lk {v B:Nat} (hv:v≤6) (hB:B≤4096): ∀(t:Rx) (ls:List Lf),t.wf=true→okB v t B→(∀l∈ls,vu v B l)→Li ls→(∀l∈(aY v t ls).ls,vu v B l)∧Li (aY v t ls).ls:=by
 have leaf: ∀(t:Rx) (ls:List Lf),t.wf=true→okB v t B→(∀a b,t≠.je a b)→(∀a b,t≠.jq a b)→(pL v t).fo=[]→((pL v t).op=0∨(pL v t).op=9∨(pL v t).op=10)→(∀l∈ls,vu v B l)→Li ls→(∀l∈ls++[pL v t],vu v B l)∧Li (ls++[pL v t]):=fun t ls hw ho n1 n2 hf KM h1 h2=>by
  refine⟨fun l hl=>?_,h2.snoc hf⟩
  rcases List.mem_append.1 hl with hl|hl
  ·exact h1 l hl
  ·rw[List.mem_singleton.1 hl];exact⟨Lh hv hB hw ho n1 n2,KM⟩
 intro t
 induction t with
 |je a b mJ uE=>
  intro ls hw ho h1 h2
  simp only[Rx.wf,aM]at hw
  obtain⟨a1,a2⟩:=mJ ls hw.1 ho.1 h1 h2
  obtain⟨b1,b2⟩:=uE _ hw.2 ho.2 a1 a2
  refine F7 _ _ _ b1 b2 fun k hk=>?_
  have k1:=(gl v a ls).2.1 k hk
  have JY:=e_ v a ls
  have Yl:=e_ v b (aY v a ls).ls
  refine⟨by omega,fun j hj=>?_⟩
  have k2:=(gl v b (aY v a ls).ls).1 j hj
  omega
 |jq a b mJ uE=>
  intro ls hw ho h1 h2
  simp only[Rx.wf,aM]at hw
  obtain⟨a1,a2⟩:=mJ ls hw.1 ho.1 h1 h2
  exact uE _ hw.2 ho.2 a1 a2
 |none=>exact fun ls hw ho=>leaf .none ls hw ho (by simp) (by simp) F (.inl F)
 |empty=>exact fun ls hw ho=>leaf .empty ls hw ho (by simp) (by simp) F (.inl F)
 |letter p n=>exact fun ls hw ho=>leaf (.letter p n) ls hw ho (by simp) (by simp) F (.inl F)
 |and a b _ _=>exact fun ls hw ho=>leaf (.and a b) ls hw ho (by simp) (by simp) F (.inl F)
 |not a _=>exact fun ls hw ho=>leaf (.not a) ls hw ho (by simp) (by simp) F (.inl F)
 |star a _=>exact fun ls hw ho=>leaf (.star a) ls hw ho (by simp) (by simp) F (.inl F)
 |ahead a _=>exact fun ls hw ho=>leaf (.ahead a) ls hw ho (by simp) (by simp) F (.inr (.inl F))
 |behind a _=>exact fun ls hw ho=>leaf (.behind a) ls hw ho (by simp) (by simp) F (.inr (.inr F))
theorem F8 {v B:Nat}: ∀(la:List Nat) (ls:List Lf),(∀l∈ls,vu v B l∧l.fo.length≤1000000)→Li ls→(∀k∈la,k<ls.length)→(∀l∈pK ls la,vu v B l∧l.fo.length≤1000000)∧Li (pK ls la)
 | [],ls,h1,h2,_=>⟨h1,h2⟩
 |k::la,ls,h1,h2,h3=>by
  have hk:=h3 k (by simp)
  refine F8 la (ls.set k {lf ls k with la:=true}) (fun l hl=>?_) (fun i hi j hj=>?_) (fun k2 pO=>by rw[eX];exact h3 k2 (by simp[pO]))
  ·rcases List.mem_or_eq_of_mem_set hl with hl|rfl
   ·exact h1 l hl
   ·have h9:=h1 _ (ko hk);exact⟨⟨h9.1.1,h9.1.2⟩,h9.2⟩
  ·rw[eX]at hi⊢
   rw[Lj hk]at hj
   split at hj
   ·rename_i e;subst e;exact h2 i hk j hj
   ·exact h2 i hi j hj
theorem JN {v B:Nat} (hv:v≤6) (hB:B≤4096) {t:Rx} (hw:t.wf=true) (MG:t.lv≤12) (h:okB v t B):ji (nw v t) v:=by
 obtain⟨h1,h2⟩:=Lk hv hB t [] hw h (fun l hl=>by simp at hl) (fun k hk=>by simp at hk)
 have h3:=rk v t [] 0 (fun l hl=>by simp at hl)
 have h4:t.lv*t.lv≤144:=Nat.mul_le_mul MG MG
 obtain⟨h5,h6⟩:=F8 (v:=v) (B:=B) (aY v t []).la (aY v t []).ls (fun l hl=>⟨h1 l hl,by have:=h3 l hl;omega⟩) h2 (fun k hk=>by
  have:=(gl v t []).2.1 k hk;rw[e_];exact this.2)
 refine⟨by rw[CZ];exact MG,fun l hl=>?_,fun l hl=>?_,fun l hl=>(h5 l hl).1.2,fun k hk j hj=>h6 k hk j hj,fun l hl=>(h5 l hl).2⟩
 ·obtain⟨p,hp⟩:=(h5 l hl).1.1;exact hp.valid
 ·obtain⟨p,hp⟩:=(h5 l hl).1.1;exact hp.vars
end Go.Lx

namespace Go.Proofs.YtgdbfideeeegmaaGreatDoor
open Go.Lx Go.RowKit _root_.Go.Proofs.Tryz
def uo (e:List eE):Rx:=jx e e.length (e.length-1)
noncomputable def mY (v:Nat) (e:List eE):Lg:=if e.any h_=true then Ya v (uo e)else gj (uo e)
def Ec (v:Nat) (e:List eE) (B:Nat):Prop:=if e.any h_=true then ZV v (uo e) B else jY v (uo e) B
theorem wi {vars:Int} {e:List eE} (h:im vars e=0):0≤vars∧vars≤6∧0<e.length∧e.length≤64∧ ∃fs,jP vars.toNat e=.ok fs∧fs.getD (e.length-1) 0=0∧mh e e.length (e.length-1) true=true:=by
 unfold im at h
 split at h
 ·omega
 ·split at h
  ·omega
  ·split at h
   ·omega
   ·cases hb:jP vars.toNat e with
    |error n=>simp only[hb]at h;exact absurd h (AQ hb)
    |ok fs=>
     simp only[hb]at h
     split at h
     ·omega
     ·split at h
      ·rename_i h1 h2 h3 h4 h5
       exact⟨by omega,by omega,by omega,by omega,fs,F,by omega,h5⟩
      ·omega
set_option maxRecDepth 20000 in
theorem JP (base:World) [dB Tryz.prog base] (eb:Option Addr) (ec:Nat) (e:List eE) (hE:Sl base eb (bX e)) (DE:e.length<4611686018427387904) (oz: ∀x∈e,x.p<256∧x.n<256) (vars lg:Int) (UL:e.any h_=true→e.length≤24) {K:Nat} (WX:K<137438953472) (AP: ∀cb,SP cb eb e.length ec vars.toNat lg.toNat e)
  (hK:im vars e=0→e.any h_=true→okB vars.toNat (uo e) lg.toNat→qu (nw vars.toNat (uo e)) K):
  cd Tryz.prog base 19 [.slice eb e.length ec,.int .i64 vars,.int .i64 lg] [] (Z1 (im vars e) lg (fun M=>gf vars lg.toNat M (mY vars.toNat e)∧Ec vars.toNat e lg.toNat) (¬Ec vars.toNat e lg.toNat)):=by
 refine Qu base eb e.length ec vars (im vars e) lg _ _ (fun w1 _ hI=>F4 w1 eb ec e (hI.sl hE) DE oz vars) ?_
 intro h0 Hk DW w8 _ cb hI eR
 obtain⟨h1,h2,h3,h4,fs,h5,h6,h7⟩:=wi h0
 obtain⟨v,rfl⟩: ∃v:Nat,vars=(v:Int):=⟨vars.toNat,by omega⟩
 obtain⟨B,rfl⟩: ∃B:Nat,lg=(B:Int):=⟨lg.toNat,by omega⟩
 simp only[Int.toNat_natCast]at*
 have EM:sJ e (uo e) (e.length-1):=j7 h5 oz e.length (e.length-1) (by omega) (by omega)
 by_cases hl:e.any h_=true
 ·have hw:(uo e).wf=true:=(ws h5 e.length (e.length-1) (by omega) (by omega)).2 h7
  have MG:(uo e).lv≤12:=by
   have:=AU h5 e.length (e.length-1) (by omega) (by omega)
   have:=UL hl
   unfold uo;omega
  refine(K0 w8 cb eb e.length ec v B eR (by omega) (by omega) (by omega) e (hI.sl hE) F h3 h4 (uo e) EM (AP cb) hl hw MG WX (fun ho=>JN (by omega) (by omega) hw MG ho) (fun ho=>hK h0 hl ho)).mono ?_ ?_
  ·rintro r O' ⟨M,k,rfl,rfl,hM,hO⟩
   exact⟨M,k,F,F,by unfold mY;rw[aR hl];exact hM,by unfold Ec;rw[aR hl];exact hO⟩
  ·intro hz;unfold Ec;rw[aR hl];exact hz
 ·have hlf:e.any h_=false:=by simpa using hl
  have hp:(uo e).plain=true:=sx h5 (fun x hx=>by
   have:=List.any_eq_false.1 hlf x hx
   unfold h_ at this
   simp only[Bool.or_eq_true,dm]at this
   omega) e.length (e.length-1) (by omega) (by omega)
  refine(HW w8 cb eb e.length ec v B eR (by omega) (by omega) (by omega) e (hI.sl hE) F h3 h4 (uo e) EM (AP cb).pl hlf hp).mono ?_ ?_
  ·rintro r O' ⟨M,k,rfl,rfl,hM,hO⟩
   exact⟨M,k,F,F,by unfold mY;rw[ay hl];exact hM,by unfold Ec;rw[ay hl];exact hO⟩
  ·intro hz;unfold Ec;rw[ay hl];exact hz
def Z3 (E:Nat) (lg:Int) (G:cM→Prop) (Z:Prop) (D:cM) (er:Nat):Prop:=
 (E≠0∧er=E∧D=Dv)∨(E=0∧ ¬(1≤lg∧lg≤4096)∧er=1∧D=Dv)∨(E=0∧(1≤lg∧lg≤4096)∧((er=0∧G D)∨(er=10∧D=Dv∧Z)))
theorem FI {base:World} {eb:Option Addr} {ec E n:Nat} {vars lg:Int} {G:cM→Prop} {Z:Prop} (h:cd Tryz.prog base 19 [.slice eb n ec,.int .i64 vars,.int .i64 lg] [] (Z1 E lg G Z)):
  cA Tryz.prog 19 [.slice eb n ec,.int .i64 vars,.int .i64 lg] base fun v N=> ∃D k er,v=.tuple #[dV D k,.int .i64 ((er:Nat):Int)]∧N=[dI 56 4 3 D k]∧Z3 E lg G Z D er:=by
 refine(Ad 56 4 3 h).post ?_
 rintro v O' ⟨O2,rfl,h⟩
 rcases h with⟨h1,rfl,rfl⟩|⟨h1,h2,rfl,rfl⟩|⟨h1,h2,⟨M,k,rfl,rfl,hG⟩|⟨rfl,rfl,hZ⟩⟩
 ·exact⟨_,Sub.rf,Dv,Uj,E,F,F,.inl ⟨h1,F,F⟩⟩
 ·exact⟨_,Sub.rf,Dv,Uj,1,F,F,.inr (.inl ⟨h1,h2,F,F⟩)⟩
 ·exact⟨_,aC [1] F,M,k,0,F,F,.inr (.inr ⟨h1,h2,.inl ⟨F,hG⟩⟩)⟩
 ·exact⟨_,Sub.rf,Dv,Uj,10,F,F,.inr (.inr ⟨h1,h2,.inr ⟨F,F,hZ⟩⟩)⟩
end Go.Proofs.YtgdbfideeeegmaaGreatDoor


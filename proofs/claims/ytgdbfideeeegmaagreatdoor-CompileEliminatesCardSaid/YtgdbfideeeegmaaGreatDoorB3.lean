/- Contracts of functions of the program, and what they answer. Conditions: those each theorem names. -/
import Derived.Test.YtgdbfideeeegmaaGreatDoorA2
import Derived.Test.YtgdbfideeeegmaaGreatDoorA7
import Derived.Test.YtgdbfideeeegmaaGreatDoorB2
import Derived.RecoverIn
import Derived.RangeFuncLeaves
import Derived.Test.YtgdbfideeeegmaaGreatDoorA9
import Derived.Test.YtgdbfideeeegmaaGreatDoorB0
set_option linter.unusedSectionVars false
set_option linter.unusedSimpArgs false
set_option linter.unusedVariables false
set_option linter.unnecessarySimpa false
set_option maxHeartbeats 8000000
set_option maxRecDepth 20000
namespace Go.Proofs.YtgdbfideeeegmaaGreatDoor
open Go.Lx Go.RowKit _root_.Go.Proofs.Tryz
theorem vo (w:World) [cG Tryz.prog w] (k:Nat) (x:dE):
  bs Tryz.prog 39 [v8 k,x.ag] w (Re 72 [] (k,[x])):=by
 refine av func39 F ntmps39 F ?_
 refine ai (aj F (cL (cs:=x.cl) F F (fun z1=>?_)))
 refine aj F (aR cg F (fun z2=>?_))
 refine ae (ai (ah F (ad (cN 1 bK F bQ F F F) (aj F (bH (m:=1) (parts:=[(0,_)]) (cs:=x.cl) cp bQ (by decide) (by kernel_rfl) F (fun z3=>?_))))))
 refine ad (bE (cs:=[v8 k,(.slice (aD z3) 1 1)]) oL cg (by kernel_rfl)) (aj F (bj (vs:=[v8 k,(.slice (aD z3) 1 1)]) 1 cg F F F F ?_))
 refine ae (az (ao ?_))
 refine bf (i:=1) Tryz.results39 eL F cg F F F ?_
 exact⟨[ak (aD z3) 1 72 5 x.cl],(by exact Sub.k .z),[⟨(aD z3),1,[x]⟩],⟨k,⟨(aD z3),1,[x]⟩⟩,F,F,F,.inl (.inl (List.mem_singleton.2 F))⟩
theorem cZ {s:Nat} {x:dE} (h:x.op=7∨x.op=8):cK s x=⟨x.op,x.p,x.n,x.a+s,x.b⟩:=if_pos h
theorem c_ {s:Nat} {x:dE} (h:x.op=4∨x.op=5∨x.op=6):cK s x=⟨x.op,x.p,x.n,x.a+s,x.b+s⟩:=by unfold cK;rw[if_neg (by omega),if_pos h]
theorem dM {s:Nat} {x:dE} (h: ¬(x.op=7∨x.op=8)) (h2: ¬(x.op=4∨x.op=5∨x.op=6)):cK s x=⟨x.op,x.p,x.n,x.a,x.b⟩:=by unfold cK;rw[if_neg h,if_neg h2]
theorem xK {op:Nat} {out:List dE} (h:64<out.length):wY op out=(3,[]):=if_pos h
theorem Ax {op:Nat} {out:List dE} (h: ¬64<out.length):wY op out=(0,out):=if_neg h
theorem CB {op:Nat} {a:PR} (ha: ¬a.k=3) (h:64<a.r.e.length+1):lE op a.pp=(3,[]):=(if_neg ha).trans (xK (show 64<(a.r.e++[_]).length by simpa using h))
theorem Fz {op:Nat} {a:PR} (ha: ¬a.k=3) (h: ¬64<a.r.e.length+1):lE op a.pp=(0,a.r.e++[⟨op,0,0,(a.r.e.length:Int)-1,0⟩]):=(if_neg ha).trans (Ax (show¬64<(a.r.e++[_]).length by simpa using h))
theorem CC {op:Nat} {a b:PR} (ha: ¬a.k=3) (hb: ¬b.k=3) (h:64<a.r.e.length+b.r.e.length+1):kx op a.pp b.pp=(3,[]):=(if_neg (fun h=>h.elim ha hb)).trans (xK (show 64<(a.r.e++b.r.e.map _++[_]).length by simpa[Nat.add_assoc]using h))
theorem FA {op:Nat} {a b:PR} (ha: ¬a.k=3) (hb: ¬b.k=3) (h: ¬64<a.r.e.length+b.r.e.length+1):kx op a.pp b.pp=(0,a.r.e++b.r.e.map (cK a.r.e.length)++[⟨op,0,0,(a.r.e.length:Int)-1,((a.r.e.length+b.r.e.length:Nat):Int)-1⟩]):=(if_neg (fun h=>h.elim ha hb)).trans (Ax (show¬64<(a.r.e++b.r.e.map _++[_]).length by simpa[Nat.add_assoc]using h))
theorem eo {e:List dE} {j:Nat} (h:j<e.length) (g:dE→dE):(e.take (j+1)).map g=(e.take j).map g++[g e[j]]:=by rw[List.take_succ_eq_append_getElem h,List.map_append];rfl
theorem Oz (w:World) [cG Tryz.prog w] (op:Nat) (tb:Option Addr) (tc:Nat) (a:PR) (hT:Sl w tb (dx [a])) (ha:Sl w a.r.b (aT a.r.e)) (mU:dv a.pp):
  bs Tryz.prog 68 [v8 op,(.slice tb 1 tc)] w (Re 72 [a] (lE op a.pp)):=by
 refine av func68 F ntmps68 F ?_
 refine ai (aj F (aR cg F (fun z1=>?_)))
 refine ae (ai (TO.qa F (ae (ai (ad (rC (cs:=[(vI 0),(vI 0)]) rH aM sK (by kernel_rfl)) (aj F (aR sK F (fun z2=>?_))))))))
 refine aj F (bj (vs:=[(vI 0),(vI 0)]) 0 sK F F F F ?_)
 refine ae (ax (ai (ah F (ad (a8 (bL ky F) (v':=vI 1) F) (ah F (ae (aC ?_)))))))
 refine nC 2 (T.round ?_)
 refine ai (ad (ar (bI F F) (b':=true) F) (ae (ax ?_)))
 refine bg F ?_
 refine aq (ax (aC (ai (ah F (ad (db (i:=0) ky cg F F (aB hT) (by simp) (by rw[fS];simp)) (ad (dT (vs:=a.cells) eL F cg F F (Nat.succ_pos _) (aB hT) (mr (l:=[a]) (i:=0) (by simp))) (aj F (aR cg F (fun z3=>?_)))))))))
 refine TO.qa F (aj F (bj (vs:=a.cells) 0 cg F F F F ?_))
 refine ae (ax (ai (ad (aJ eL F mu F F) (ad (aO 0 sL F F F F) (ad (bo F F) (ae (aw F (fun hc=>?_) (fun hc=>?_))))))))
 ·have qf:a.k=3:=by omega
  refine ai (ad (bE (cs:=[.int .u8 3,nS]) oL cg (by kernel_rfl)) (aj F (bj (vs:=[.int .u8 3,nS]) 2 cg F F F F ?_)))
  refine ae (az (ao ?_))
  refine bf (i:=2) Tryz.results68 eL F cg F F F ?_
  exact⟨[],Sub.z,[],⟨3,⟨none,0,[]⟩⟩,F,F,(if_pos qf).symm,.inl (.inr F)⟩
 have vp: ¬a.k=3:=by omega
 have OA: ¬a.k=3:=vp
 refine aq (ai (ah F (ad (bL cp F) (TO.qa F (ae (ax (ai (ad (aJ eL F eT F F) (ad (aO 0 cp F F F F) (ad (bL cp F) (ah F (ae (aC (T.dt 72 5 ?_))))))))))))))
 refine cE (fun(j1:Nat) ρ O=> ∃(oa:Option Addr) (ka:Nat),O=[ak oa ka 72 5 (aT ((a.r.e.take j1).map (cK 0))),oI z3 69 a.cells,oI z2 153 [(vI 0),(vI 0)],oI z1 69 [(.int .u8 0),nS]]∧j1≤a.r.e.length∧bZ [(0,v8 op),(1,(.slice tb 1 tc)),(4,(.pointer (aD z1))),(5,(.slice oa (((a.r.e.take j1).map (cK 0)).length) ka)),(6,(.pointer (aD z2))),(7,vI 0),(8,(.pointer (aD z3))),(9,vI (0:Int)),(12,(.agg #[(vI 0),(vI 0)])),(13,(.slice tb 1 tc)),(14,vI 1),(15,vI 0),(27,(.slice a.r.b a.r.e.length a.r.c)),(28,vI (a.r.e.length:Int)),(29,vN j1)] ρ) (fun j1=>a.r.e.length-j1) 0 ?_ ?_
 ·exact⟨none,0,F,Nat.zero_le _,(.of F)⟩
 rintro j1 ρ O ⟨oa,ka,rfl,hj,hH⟩
 obtain⟨eP,rfl⟩:=hH.elim
 clear hH
 refine ai (ad (bI F F) (ae (ax (aw F (fun hc=>?_) (fun hc=>?_)))))
 ·have e_:j1<a.r.e.length:=by omega
  have uj:ui a.r.e.length a.r.e[j1]:=mU.pc _ (List.getElem_mem e_)
  have WA:=uj.a0;have Ay:=uj.a1;have Az:=uj.b0;have Sg:=uj.b1
  have WB:a.r.e.length≤64:=mU.len
  refine aq (ax (aC (ai ?_)))
  refine ad (db (i:=j1) cp bQ F F (aB ha) e_ (by rw[bF];omega)) (ad (dT (vs:=a.r.e[j1].cl) bK F bQ F F (Nat.succ_pos _) (aB ha) (fp (List.getElem?_eq_getElem e_))) ?_)
  refine aj F (aR bQ F (fun z4=>?_))
  refine aj F (bj (vs:=a.r.e[j1].cl) 0 bQ F F F F ?_)
  refine ae ?_
  refine fg (fun ρ O=>Sub [oI z4 72 (cK 0 a.r.e[j1]).cl,ak oa ka 72 5 (aT ((a.r.e.take j1).map (cK 0))),oI z3 69 a.cells,oI z2 153 [(vI 0),(vI 0)],oI z1 69 [(.int .u8 0),nS]] O∧bZ [(0,v8 op),(1,(.slice tb 1 tc)),(4,(.pointer (aD z1))),(5,(.slice oa (((a.r.e.take j1).map (cK 0)).length) ka)),(6,(.pointer (aD z2))),(7,vI 0),(8,(.pointer (aD z3))),(9,vI (0:Int)),(11,(.pointer (aD z4))),(12,(.agg #[(vI 0),(vI 0)])),(13,(.slice tb 1 tc)),(14,vI 1),(15,vI 0),(27,(.slice a.r.b a.r.e.length a.r.c)),(28,vI (a.r.e.length:Int)),(29,vN j1)] ρ) ?_ ?_
  ·refine ax ?_
   refine aH (ad (aJ bK F cP F F) (ad (aO 0 eC F F F F) (ae (aC (ax (ai (ad (bo F F) (TO.qa F (ae (aw F (fun hc=>?_) (fun hc=>?_)))))))))))
   ·have oM:a.r.e[j1].op=7:=by omega
    refine aq (aw F (fun hc=>?_) (fun hc=>?_))
    ·have oM:a.r.e[j1].op=7:=by omega
     refine aH (ad (aJ bK F aM F F) (ad (aO 0 dh F F F F) (ah F (ad (cM F F (by omega)) (ad (aJ bK F aM F F) (aj F (bj (vs:=[(vI (a.r.e[j1].a+(0:Int)))]) 0 aM F F F F ?_)))))))
     refine ae ?_
     exact⟨(by first|(rw[cZ (by omega)];exact Sub.rf)|(rw[c_ (by omega)];exact Sub.rf)|(rw[dM (by omega) (by omega)];exact Sub.rf)),(.of F)⟩
    have oN: ¬a.r.e[j1].op=7:=by omega
    refine ax (ai (ad (bo F F) (TO.qa F (ae (aw F (fun hc=>?_) (fun hc=>?_))))))
    ·have fT:a.r.e[j1].op=4:=by omega
     refine aq (aw F (fun hc=>?_) (fun hc=>?_))
     ·have fT:a.r.e[j1].op=4:=by omega
      refine aH (ad (aJ bK F aM F F) (ad (aO 0 dh F F F F) (ah F (ad (cM F F (by omega)) (ad (aJ bK F aM F F) (ad (aO 0 dh F F F F) (ah F (ad (cM F F (by omega)) (ad (aJ bK F aM F F) (aj F (bj (vs:=[(vI (a.r.e[j1].a+(0:Int)))]) 0 aM F F F F ?_)))))))))))
      refine ad (aJ bK F aM F F) (aj F (bj (vs:=[(vI (a.r.e[j1].b+(0:Int)))]) 0 aM F F F F ?_))
      refine ae ?_
      exact⟨(by first|(rw[cZ (by omega)];exact Sub.rf)|(rw[c_ (by omega)];exact Sub.rf)|(rw[dM (by omega) (by omega)];exact Sub.rf)),(.of F)⟩
     have gh: ¬a.r.e[j1].op=4:=by omega
     refine aq ?_
     exact⟨(by first|(rw[cZ (by omega)];exact Sub.rf)|(rw[c_ (by omega)];exact Sub.rf)|(rw[dM (by omega) (by omega)];exact Sub.rf)),(.of F)⟩
    have gh: ¬a.r.e[j1].op=4:=by omega
    refine ai (ad (bo F F) (TO.qa F (ae (aw F (fun hc=>?_) (fun hc=>?_)))))
    ·have fT:a.r.e[j1].op=5:=by omega
     refine aq (aw F (fun hc=>?_) (fun hc=>?_))
     ·have fT:a.r.e[j1].op=5:=by omega
      refine aH (ad (aJ bK F aM F F) (ad (aO 0 dh F F F F) (ah F (ad (cM F F (by omega)) (ad (aJ bK F aM F F) (ad (aO 0 dh F F F F) (ah F (ad (cM F F (by omega)) (ad (aJ bK F aM F F) (aj F (bj (vs:=[(vI (a.r.e[j1].a+(0:Int)))]) 0 aM F F F F ?_)))))))))))
      refine ad (aJ bK F aM F F) (aj F (bj (vs:=[(vI (a.r.e[j1].b+(0:Int)))]) 0 aM F F F F ?_))
      refine ae ?_
      exact⟨(by first|(rw[cZ (by omega)];exact Sub.rf)|(rw[c_ (by omega)];exact Sub.rf)|(rw[dM (by omega) (by omega)];exact Sub.rf)),(.of F)⟩
     have gh: ¬a.r.e[j1].op=5:=by omega
     refine aq ?_
     exact⟨(by first|(rw[cZ (by omega)];exact Sub.rf)|(rw[c_ (by omega)];exact Sub.rf)|(rw[dM (by omega) (by omega)];exact Sub.rf)),(.of F)⟩
    have gh: ¬a.r.e[j1].op=5:=by omega
    refine aH (ad (bo F F) (TO.qa F (ae (aw F (fun hc=>?_) (fun hc=>?_)))))
    ·have fT:a.r.e[j1].op=6:=by omega
     refine aH (ad (aJ bK F aM F F) (ad (aO 0 dh F F F F) (ah F (ad (cM F F (by omega)) (ad (aJ bK F aM F F) (ad (aO 0 dh F F F F) (ah F (ad (cM F F (by omega)) (ad (aJ bK F aM F F) (aj F (bj (vs:=[(vI (a.r.e[j1].a+(0:Int)))]) 0 aM F F F F ?_)))))))))))
     refine ad (aJ bK F aM F F) (aj F (bj (vs:=[(vI (a.r.e[j1].b+(0:Int)))]) 0 aM F F F F ?_))
     refine ae ?_
     exact⟨(by first|(rw[cZ (by omega)];exact Sub.rf)|(rw[c_ (by omega)];exact Sub.rf)|(rw[dM (by omega) (by omega)];exact Sub.rf)),(.of F)⟩
    have gh: ¬a.r.e[j1].op=6:=by omega
    refine aq ?_
    exact⟨(by first|(rw[cZ (by omega)];exact Sub.rf)|(rw[c_ (by omega)];exact Sub.rf)|(rw[dM (by omega) (by omega)];exact Sub.rf)),(.of F)⟩
   have oN: ¬a.r.e[j1].op=7:=by omega
   refine aH (ad (bo F F) (TO.qa F (ae (aw F (fun hc=>?_) (fun hc=>?_)))))
   ·have oM:a.r.e[j1].op=8:=by omega
    refine aH (ad (aJ bK F aM F F) (ad (aO 0 dh F F F F) (ah F (ad (cM F F (by omega)) (ad (aJ bK F aM F F) (aj F (bj (vs:=[(vI (a.r.e[j1].a+(0:Int)))]) 0 aM F F F F ?_)))))))
    refine ae ?_
    exact⟨(by first|(rw[cZ (by omega)];exact Sub.rf)|(rw[c_ (by omega)];exact Sub.rf)|(rw[dM (by omega) (by omega)];exact Sub.rf)),(.of F)⟩
   have oN: ¬a.r.e[j1].op=8:=by omega
   refine ax (ai (ad (bo F F) (TO.qa F (ae (aw F (fun hc=>?_) (fun hc=>?_))))))
   ·have fT:a.r.e[j1].op=4:=by omega
    refine aq (aw F (fun hc=>?_) (fun hc=>?_))
    ·have fT:a.r.e[j1].op=4:=by omega
     refine aH (ad (aJ bK F aM F F) (ad (aO 0 dh F F F F) (ah F (ad (cM F F (by omega)) (ad (aJ bK F aM F F) (ad (aO 0 dh F F F F) (ah F (ad (cM F F (by omega)) (ad (aJ bK F aM F F) (aj F (bj (vs:=[(vI (a.r.e[j1].a+(0:Int)))]) 0 aM F F F F ?_)))))))))))
     refine ad (aJ bK F aM F F) (aj F (bj (vs:=[(vI (a.r.e[j1].b+(0:Int)))]) 0 aM F F F F ?_))
     refine ae ?_
     exact⟨(by first|(rw[cZ (by omega)];exact Sub.rf)|(rw[c_ (by omega)];exact Sub.rf)|(rw[dM (by omega) (by omega)];exact Sub.rf)),(.of F)⟩
    have gh: ¬a.r.e[j1].op=4:=by omega
    refine aq ?_
    exact⟨(by first|(rw[cZ (by omega)];exact Sub.rf)|(rw[c_ (by omega)];exact Sub.rf)|(rw[dM (by omega) (by omega)];exact Sub.rf)),(.of F)⟩
   have gh: ¬a.r.e[j1].op=4:=by omega
   refine ai (ad (bo F F) (TO.qa F (ae (aw F (fun hc=>?_) (fun hc=>?_)))))
   ·have fT:a.r.e[j1].op=5:=by omega
    refine aq (aw F (fun hc=>?_) (fun hc=>?_))
    ·have fT:a.r.e[j1].op=5:=by omega
     refine aH (ad (aJ bK F aM F F) (ad (aO 0 dh F F F F) (ah F (ad (cM F F (by omega)) (ad (aJ bK F aM F F) (ad (aO 0 dh F F F F) (ah F (ad (cM F F (by omega)) (ad (aJ bK F aM F F) (aj F (bj (vs:=[(vI (a.r.e[j1].a+(0:Int)))]) 0 aM F F F F ?_)))))))))))
     refine ad (aJ bK F aM F F) (aj F (bj (vs:=[(vI (a.r.e[j1].b+(0:Int)))]) 0 aM F F F F ?_))
     refine ae ?_
     exact⟨(by first|(rw[cZ (by omega)];exact Sub.rf)|(rw[c_ (by omega)];exact Sub.rf)|(rw[dM (by omega) (by omega)];exact Sub.rf)),(.of F)⟩
    have gh: ¬a.r.e[j1].op=5:=by omega
    refine aq ?_
    exact⟨(by first|(rw[cZ (by omega)];exact Sub.rf)|(rw[c_ (by omega)];exact Sub.rf)|(rw[dM (by omega) (by omega)];exact Sub.rf)),(.of F)⟩
   have gh: ¬a.r.e[j1].op=5:=by omega
   refine aH (ad (bo F F) (TO.qa F (ae (aw F (fun hc=>?_) (fun hc=>?_)))))
   ·have fT:a.r.e[j1].op=6:=by omega
    refine aH (ad (aJ bK F aM F F) (ad (aO 0 dh F F F F) (ah F (ad (cM F F (by omega)) (ad (aJ bK F aM F F) (ad (aO 0 dh F F F F) (ah F (ad (cM F F (by omega)) (ad (aJ bK F aM F F) (aj F (bj (vs:=[(vI (a.r.e[j1].a+(0:Int)))]) 0 aM F F F F ?_)))))))))))
    refine ad (aJ bK F aM F F) (aj F (bj (vs:=[(vI (a.r.e[j1].b+(0:Int)))]) 0 aM F F F F ?_))
    refine ae ?_
    exact⟨(by first|(rw[cZ (by omega)];exact Sub.rf)|(rw[c_ (by omega)];exact Sub.rf)|(rw[dM (by omega) (by omega)];exact Sub.rf)),(.of F)⟩
   have gh: ¬a.r.e[j1].op=6:=by omega
   refine aq ?_
   exact⟨(by first|(rw[cZ (by omega)];exact Sub.rf)|(rw[c_ (by omega)];exact Sub.rf)|(rw[dM (by omega) (by omega)];exact Sub.rf)),(.of F)⟩
  rintro ρ O ⟨hS,hH⟩
  obtain⟨eP,rfl⟩:=hH.elim
  clear hH
  refine cu hS ?_
  refine aH (ah F (ad (cN 0 bK F bQ F F F) (aj F (bH (m:=1) (parts:=[(0,_)]) (cs:=(cK 0 a.r.e[j1]).cl) cp bQ (by decide) (by kernel_rfl) F (fun z5=>?_)))))
  refine aj F (bX 2 cp cp bQ F F F F (by rw[bF]) (by decide) (Src.row (j:=0) F (by simp)) (by simp[dD]) (by simp only[List.nil_append,List.length_append,List.length_map,List.length_take];omega) (by decide) (by decide) (fun z6 AA=>?_))
  refine TO.qa F (ae (aH (ad (cj (a:=j1) (b:=1) F F (by omega)) (ah F (ae ?_)))))
  exact⟨j1+1,by omega,[ak z6 AA 72 5 ((aT ((a.r.e.take j1).map (cK 0)))++(cK 0 a.r.e[j1]).cl),oI z3 69 a.cells,oI z2 153 [(vI 0),(vI 0)],oI z1 69 [(.int .u8 0),nS]],(by exact Sub.d (.d (.k (.k (.k (.k .z)))))),z6,AA,by rw[eo e_,gg (((a.r.e.take j1).map (cK 0)))];rfl,by omega,⟨F,F,F,(congrArg (fun n9=>Value.slice z6 n9 AA) (show(((a.r.e.take j1).map (cK 0)).length)+1=(((a.r.e.take (j1+1)).map (cK 0))).length by rw[eo e_];simp only[List.length_append,List.length_cons,List.length_nil]<;>omega)),F,F,F,F,F,F,F,F,F,F,F,trivial⟩⟩
 have AB: ¬j1<a.r.e.length:=by omega
 have Gn:j1=a.r.e.length:=by omega
 have G3:0<a.r.e.length:=mU.pos OA
 have Yo:a.r.e.length≤64:=mU.len
 have Rf:((a.r.e.take j1).map (cK 0))=a.r.e:=by rw[Gn,List.take_length,show cK 0=id from funext Aw,List.map_id]
 have Gp:((a.r.e.take j1).map (cK 0)).length=a.r.e.length:=by rw[Gn];simp
 refine bn ?_
 refine aH (ah F (ah F (ad (bL cp F) (ad (gI (a:=(((a.r.e.take j1).map (cK 0)).length)) (b:=1) F F (by omega) (by omega)) (ad (ij (i:=0) rH aM F F (by decide)) (aj F (bj (vs:=[(vN ((((a.r.e.take j1).map (cK 0)).length)-1))]) 2 aM F F F F ?_)))))))
 refine ae (aH (ad (a8 (cM F F (by omega)) (v':=vI 1) F) (ah F (ae ?_))))
 refine mn [ak oa ka 72 5 (aT ((a.r.e.take j1).map (cK 0))),oI z3 69 a.cells,oI z2 153 [(vN ((((a.r.e.take j1).map (cK 0)).length)-1)),(vI 0)],oI z1 69 [(.int .u8 0),nS]] [(0,v8 op),(1,(.slice tb 1 tc)),(4,(.pointer (aD z1))),(5,(.slice oa (((a.r.e.take j1).map (cK 0)).length) ka)),(6,(.pointer (aD z2))),(7,vI 0),(8,(.pointer (aD z3))),(9,vI (0:Int)),(12,(.agg #[(vI 0),(vI 0)])),(13,(.slice tb 1 tc)),(14,vI 1),(15,vI 1)] F (.of F) (fun eP=>?_)
 refine T.round ?_
 refine ai (ad (ar (bI F F) (b':=false) F) (ae (ax (aL F ?_))))
 refine bn ?_
 refine ai (ah F (ah F (ad (ij (i:=0) rH aM F F (by decide)) (ad (aO 2 dh F F F F) (ad (ij (i:=1) rH aM F F (by decide)) (ad (aO 2 dh F F F F) (ad (bE (cs:=[v8 op,(.int .u8 0),(.int .u8 0),(vN ((((a.r.e.take j1).map (cK 0)).length)-1)),(vI 0)]) iy bQ (by kernel_rfl)) (aj F (bH (m:=1) (parts:=[(0,_)]) (cs:=[v8 op,(.int .u8 0),(.int .u8 0),(vN ((((a.r.e.take j1).map (cK 0)).length)-1)),(vI 0)]) cp bQ (by decide) (by kernel_rfl) F (fun z8=>?_))))))))))
 refine aj F (bX 1 cp cp bQ F F F F (by rw[bF]) (by decide) (Src.row (j:=0) F (by simp)) (by simp[dD]) (by simp only[List.nil_append,List.length_append,List.length_map,List.length_take];omega) (by decide) (by decide) (fun z9 k_=>?_))
 refine TO.qa F (ae (ax (ai (ah F (ad (bL cp F) (ad (fw F F) (ae (aw F (fun hc=>?_) (fun hc=>?_)))))))))
 ·have Hf:(((a.r.e.take j1).map (cK 0)).length)+1>64:=by omega
  have hL:=Hf
  refine ai (ad (bE (cs:=[.int .u8 3,nS]) oL cg (by kernel_rfl)) (aj F (bj (vs:=[.int .u8 3,nS]) 4 cg F F F F ?_)))
  refine ae (az (ao ?_))
  refine bf (i:=4) Tryz.results68 eL F cg F F F ?_
  exact⟨[],Sub.z,[],⟨3,⟨none,0,[]⟩⟩,F,F,(CB OA (by rw[Rf]at hL;simpa using hL)).symm,.inl (.inr F)⟩
 have Hg: ¬(((a.r.e.take j1).map (cK 0)).length)+1>64:=by omega
 have hL:=Hg
 refine aq (ai (ah F (ad (bE (cs:=[(.int .u8 0),(.slice z9 ((((a.r.e.take j1).map (cK 0)).length)+1) k_)]) oL cg (by kernel_rfl)) (aj F (bj (vs:=[(.int .u8 0),(.slice z9 ((((a.r.e.take j1).map (cK 0)).length)+1) k_)]) 4 cg F F F F ?_)))))
 refine ae (az (ao ?_))
 refine bf (i:=4) Tryz.results68 eL F cg F F F ?_
 have Hh:=Fz (op:=op) OA (by rw[Rf]at hL;simpa using hL)
 exact⟨[ak z9 k_ 72 5 ((aT ((a.r.e.take j1).map (cK 0)))++[v8 op,(.int .u8 0),(.int .u8 0),(vN ((((a.r.e.take j1).map (cK 0)).length)-1)),(vI 0)])],(by exact Sub.d (.k .z)),[⟨z9,k_,(lE op a.pp).2⟩],⟨0,⟨z9,k_,(lE op a.pp).2⟩⟩,congrArg (fun n9=>Value.agg #[.int .u8 0,.slice z9 n9 k_]) (show(((a.r.e.take j1).map (cK 0)).length)+1=((lE op a.pp).2).length by rw[Hh,Rf];first|(simp;done)|(simp;omega)),congrArg (fun z=>[ak z9 k_ 72 5 z]) (show(aT ((a.r.e.take j1).map (cK 0)))++[v8 op,(.int .u8 0),(.int .u8 0),(vN ((((a.r.e.take j1).map (cK 0)).length)-1)),(vI 0)]=aT ((lE op a.pp).2) by rw[Hh,Rf,gg];first|(simp[aT,dE.cells];done)|(simp[aT,dE.cells];omega)),by rw[Hh];rfl,.inl (.inl (List.mem_singleton.2 F))⟩
theorem Hi (w:World) [cG Tryz.prog w] (op:Nat) (tb:Option Addr) (tc:Nat) (a b:PR) (hT:Sl w tb (dx [a,b])) (ha:Sl w a.r.b (aT a.r.e)) (mU:dv a.pp) (hb:Sl w b.r.b (aT b.r.e)) (qE:dv b.pp):
  bs Tryz.prog 68 [v8 op,(.slice tb 2 tc)] w (Re 72 [a,b] (kx op a.pp b.pp)):=by
 refine av func68 F ntmps68 F ?_
 refine ai (aj F (aR cg F (fun z1=>?_)))
 refine ae (ai (TO.qa F (ae (ai (ad (rC (cs:=[(vI 0),(vI 0)]) rH aM sK (by kernel_rfl)) (aj F (aR sK F (fun z2=>?_))))))))
 refine aj F (bj (vs:=[(vI 0),(vI 0)]) 0 sK F F F F ?_)
 refine ae (ax (ai (ah F (ad (a8 (bL ky F) (v':=vI 2) F) (ah F (ae (aC ?_)))))))
 refine nC 3 (T.round ?_)
 refine ai (ad (ar (bI F F) (b':=true) F) (ae (ax ?_)))
 refine bg F ?_
 refine aq (ax (aC (ai (ah F (ad (db (i:=0) ky cg F F (aB hT) (by simp) (by rw[fS];simp)) (ad (dT (vs:=a.cells) eL F cg F F (Nat.succ_pos _) (aB hT) (mr (l:=[a,b]) (i:=0) (by simp))) (aj F (aR cg F (fun z3=>?_)))))))))
 refine TO.qa F (aj F (bj (vs:=a.cells) 0 cg F F F F ?_))
 refine ae (ax (ai (ad (aJ eL F mu F F) (ad (aO 0 sL F F F F) (ad (bo F F) (ae (aw F (fun hc=>?_) (fun hc=>?_))))))))
 ·have qf:a.k=3:=by omega
  refine ai (ad (bE (cs:=[.int .u8 3,nS]) oL cg (by kernel_rfl)) (aj F (bj (vs:=[.int .u8 3,nS]) 2 cg F F F F ?_)))
  refine ae (az (ao ?_))
  refine bf (i:=2) Tryz.results68 eL F cg F F F ?_
  exact⟨[],Sub.z,[],⟨3,⟨none,0,[]⟩⟩,F,F,(if_pos (.inl qf)).symm,.inl (.inr F)⟩
 have vp: ¬a.k=3:=by omega
 have OA: ¬a.k=3:=vp
 refine aq (ai (ah F (ad (bL cp F) (TO.qa F (ae (ax (ai (ad (aJ eL F eT F F) (ad (aO 0 cp F F F F) (ad (bL cp F) (ah F (ae (aC (T.dt 72 5 ?_))))))))))))))
 refine cE (fun(j1:Nat) ρ O=> ∃(oa:Option Addr) (ka:Nat),O=[ak oa ka 72 5 (aT ((a.r.e.take j1).map (cK 0))),oI z3 69 a.cells,oI z2 153 [(vI 0),(vI 0)],oI z1 69 [(.int .u8 0),nS]]∧j1≤a.r.e.length∧bZ [(0,v8 op),(1,(.slice tb 2 tc)),(4,(.pointer (aD z1))),(5,(.slice oa (((a.r.e.take j1).map (cK 0)).length) ka)),(6,(.pointer (aD z2))),(7,vI 0),(8,(.pointer (aD z3))),(9,vI (0:Int)),(12,(.agg #[(vI 0),(vI 0)])),(13,(.slice tb 2 tc)),(14,vI 2),(15,vI 0),(27,(.slice a.r.b a.r.e.length a.r.c)),(28,vI (a.r.e.length:Int)),(29,vN j1)] ρ) (fun j1=>a.r.e.length-j1) 0 ?_ ?_
 ·exact⟨none,0,F,Nat.zero_le _,(.of F)⟩
 rintro j1 ρ O ⟨oa,ka,rfl,hj,hH⟩
 obtain⟨eP,rfl⟩:=hH.elim
 clear hH
 refine ai (ad (bI F F) (ae (ax (aw F (fun hc=>?_) (fun hc=>?_)))))
 ·have e_:j1<a.r.e.length:=by omega
  have uj:ui a.r.e.length a.r.e[j1]:=mU.pc _ (List.getElem_mem e_)
  have WA:=uj.a0;have Ay:=uj.a1;have Az:=uj.b0;have Sg:=uj.b1
  have WB:a.r.e.length≤64:=mU.len
  refine aq (ax (aC (ai ?_)))
  refine ad (db (i:=j1) cp bQ F F (aB ha) e_ (by rw[bF];omega)) (ad (dT (vs:=a.r.e[j1].cl) bK F bQ F F (Nat.succ_pos _) (aB ha) (fp (List.getElem?_eq_getElem e_))) ?_)
  refine aj F (aR bQ F (fun z4=>?_))
  refine aj F (bj (vs:=a.r.e[j1].cl) 0 bQ F F F F ?_)
  refine ae ?_
  refine fg (fun ρ O=>Sub [oI z4 72 (cK 0 a.r.e[j1]).cl,ak oa ka 72 5 (aT ((a.r.e.take j1).map (cK 0))),oI z3 69 a.cells,oI z2 153 [(vI 0),(vI 0)],oI z1 69 [(.int .u8 0),nS]] O∧bZ [(0,v8 op),(1,(.slice tb 2 tc)),(4,(.pointer (aD z1))),(5,(.slice oa (((a.r.e.take j1).map (cK 0)).length) ka)),(6,(.pointer (aD z2))),(7,vI 0),(8,(.pointer (aD z3))),(9,vI (0:Int)),(11,(.pointer (aD z4))),(12,(.agg #[(vI 0),(vI 0)])),(13,(.slice tb 2 tc)),(14,vI 2),(15,vI 0),(27,(.slice a.r.b a.r.e.length a.r.c)),(28,vI (a.r.e.length:Int)),(29,vN j1)] ρ) ?_ ?_
  ·refine ax ?_
   refine aH (ad (aJ bK F cP F F) (ad (aO 0 eC F F F F) (ae (aC (ax (ai (ad (bo F F) (TO.qa F (ae (aw F (fun hc=>?_) (fun hc=>?_)))))))))))
   ·have oM:a.r.e[j1].op=7:=by omega
    refine aq (aw F (fun hc=>?_) (fun hc=>?_))
    ·have oM:a.r.e[j1].op=7:=by omega
     refine aH (ad (aJ bK F aM F F) (ad (aO 0 dh F F F F) (ah F (ad (cM F F (by omega)) (ad (aJ bK F aM F F) (aj F (bj (vs:=[(vI (a.r.e[j1].a+(0:Int)))]) 0 aM F F F F ?_)))))))
     refine ae ?_
     exact⟨(by first|(rw[cZ (by omega)];exact Sub.rf)|(rw[c_ (by omega)];exact Sub.rf)|(rw[dM (by omega) (by omega)];exact Sub.rf)),(.of F)⟩
    have oN: ¬a.r.e[j1].op=7:=by omega
    refine ax (ai (ad (bo F F) (TO.qa F (ae (aw F (fun hc=>?_) (fun hc=>?_))))))
    ·have fT:a.r.e[j1].op=4:=by omega
     refine aq (aw F (fun hc=>?_) (fun hc=>?_))
     ·have fT:a.r.e[j1].op=4:=by omega
      refine aH (ad (aJ bK F aM F F) (ad (aO 0 dh F F F F) (ah F (ad (cM F F (by omega)) (ad (aJ bK F aM F F) (ad (aO 0 dh F F F F) (ah F (ad (cM F F (by omega)) (ad (aJ bK F aM F F) (aj F (bj (vs:=[(vI (a.r.e[j1].a+(0:Int)))]) 0 aM F F F F ?_)))))))))))
      refine ad (aJ bK F aM F F) (aj F (bj (vs:=[(vI (a.r.e[j1].b+(0:Int)))]) 0 aM F F F F ?_))
      refine ae ?_
      exact⟨(by first|(rw[cZ (by omega)];exact Sub.rf)|(rw[c_ (by omega)];exact Sub.rf)|(rw[dM (by omega) (by omega)];exact Sub.rf)),(.of F)⟩
     have gh: ¬a.r.e[j1].op=4:=by omega
     refine aq ?_
     exact⟨(by first|(rw[cZ (by omega)];exact Sub.rf)|(rw[c_ (by omega)];exact Sub.rf)|(rw[dM (by omega) (by omega)];exact Sub.rf)),(.of F)⟩
    have gh: ¬a.r.e[j1].op=4:=by omega
    refine ai (ad (bo F F) (TO.qa F (ae (aw F (fun hc=>?_) (fun hc=>?_)))))
    ·have fT:a.r.e[j1].op=5:=by omega
     refine aq (aw F (fun hc=>?_) (fun hc=>?_))
     ·have fT:a.r.e[j1].op=5:=by omega
      refine aH (ad (aJ bK F aM F F) (ad (aO 0 dh F F F F) (ah F (ad (cM F F (by omega)) (ad (aJ bK F aM F F) (ad (aO 0 dh F F F F) (ah F (ad (cM F F (by omega)) (ad (aJ bK F aM F F) (aj F (bj (vs:=[(vI (a.r.e[j1].a+(0:Int)))]) 0 aM F F F F ?_)))))))))))
      refine ad (aJ bK F aM F F) (aj F (bj (vs:=[(vI (a.r.e[j1].b+(0:Int)))]) 0 aM F F F F ?_))
      refine ae ?_
      exact⟨(by first|(rw[cZ (by omega)];exact Sub.rf)|(rw[c_ (by omega)];exact Sub.rf)|(rw[dM (by omega) (by omega)];exact Sub.rf)),(.of F)⟩
     have gh: ¬a.r.e[j1].op=5:=by omega
     refine aq ?_
     exact⟨(by first|(rw[cZ (by omega)];exact Sub.rf)|(rw[c_ (by omega)];exact Sub.rf)|(rw[dM (by omega) (by omega)];exact Sub.rf)),(.of F)⟩
    have gh: ¬a.r.e[j1].op=5:=by omega
    refine aH (ad (bo F F) (TO.qa F (ae (aw F (fun hc=>?_) (fun hc=>?_)))))
    ·have fT:a.r.e[j1].op=6:=by omega
     refine aH (ad (aJ bK F aM F F) (ad (aO 0 dh F F F F) (ah F (ad (cM F F (by omega)) (ad (aJ bK F aM F F) (ad (aO 0 dh F F F F) (ah F (ad (cM F F (by omega)) (ad (aJ bK F aM F F) (aj F (bj (vs:=[(vI (a.r.e[j1].a+(0:Int)))]) 0 aM F F F F ?_)))))))))))
     refine ad (aJ bK F aM F F) (aj F (bj (vs:=[(vI (a.r.e[j1].b+(0:Int)))]) 0 aM F F F F ?_))
     refine ae ?_
     exact⟨(by first|(rw[cZ (by omega)];exact Sub.rf)|(rw[c_ (by omega)];exact Sub.rf)|(rw[dM (by omega) (by omega)];exact Sub.rf)),(.of F)⟩
    have gh: ¬a.r.e[j1].op=6:=by omega
    refine aq ?_
    exact⟨(by first|(rw[cZ (by omega)];exact Sub.rf)|(rw[c_ (by omega)];exact Sub.rf)|(rw[dM (by omega) (by omega)];exact Sub.rf)),(.of F)⟩
   have oN: ¬a.r.e[j1].op=7:=by omega
   refine aH (ad (bo F F) (TO.qa F (ae (aw F (fun hc=>?_) (fun hc=>?_)))))
   ·have oM:a.r.e[j1].op=8:=by omega
    refine aH (ad (aJ bK F aM F F) (ad (aO 0 dh F F F F) (ah F (ad (cM F F (by omega)) (ad (aJ bK F aM F F) (aj F (bj (vs:=[(vI (a.r.e[j1].a+(0:Int)))]) 0 aM F F F F ?_)))))))
    refine ae ?_
    exact⟨(by first|(rw[cZ (by omega)];exact Sub.rf)|(rw[c_ (by omega)];exact Sub.rf)|(rw[dM (by omega) (by omega)];exact Sub.rf)),(.of F)⟩
   have oN: ¬a.r.e[j1].op=8:=by omega
   refine ax (ai (ad (bo F F) (TO.qa F (ae (aw F (fun hc=>?_) (fun hc=>?_))))))
   ·have fT:a.r.e[j1].op=4:=by omega
    refine aq (aw F (fun hc=>?_) (fun hc=>?_))
    ·have fT:a.r.e[j1].op=4:=by omega
     refine aH (ad (aJ bK F aM F F) (ad (aO 0 dh F F F F) (ah F (ad (cM F F (by omega)) (ad (aJ bK F aM F F) (ad (aO 0 dh F F F F) (ah F (ad (cM F F (by omega)) (ad (aJ bK F aM F F) (aj F (bj (vs:=[(vI (a.r.e[j1].a+(0:Int)))]) 0 aM F F F F ?_)))))))))))
     refine ad (aJ bK F aM F F) (aj F (bj (vs:=[(vI (a.r.e[j1].b+(0:Int)))]) 0 aM F F F F ?_))
     refine ae ?_
     exact⟨(by first|(rw[cZ (by omega)];exact Sub.rf)|(rw[c_ (by omega)];exact Sub.rf)|(rw[dM (by omega) (by omega)];exact Sub.rf)),(.of F)⟩
    have gh: ¬a.r.e[j1].op=4:=by omega
    refine aq ?_
    exact⟨(by first|(rw[cZ (by omega)];exact Sub.rf)|(rw[c_ (by omega)];exact Sub.rf)|(rw[dM (by omega) (by omega)];exact Sub.rf)),(.of F)⟩
   have gh: ¬a.r.e[j1].op=4:=by omega
   refine ai (ad (bo F F) (TO.qa F (ae (aw F (fun hc=>?_) (fun hc=>?_)))))
   ·have fT:a.r.e[j1].op=5:=by omega
    refine aq (aw F (fun hc=>?_) (fun hc=>?_))
    ·have fT:a.r.e[j1].op=5:=by omega
     refine aH (ad (aJ bK F aM F F) (ad (aO 0 dh F F F F) (ah F (ad (cM F F (by omega)) (ad (aJ bK F aM F F) (ad (aO 0 dh F F F F) (ah F (ad (cM F F (by omega)) (ad (aJ bK F aM F F) (aj F (bj (vs:=[(vI (a.r.e[j1].a+(0:Int)))]) 0 aM F F F F ?_)))))))))))
     refine ad (aJ bK F aM F F) (aj F (bj (vs:=[(vI (a.r.e[j1].b+(0:Int)))]) 0 aM F F F F ?_))
     refine ae ?_
     exact⟨(by first|(rw[cZ (by omega)];exact Sub.rf)|(rw[c_ (by omega)];exact Sub.rf)|(rw[dM (by omega) (by omega)];exact Sub.rf)),(.of F)⟩
    have gh: ¬a.r.e[j1].op=5:=by omega
    refine aq ?_
    exact⟨(by first|(rw[cZ (by omega)];exact Sub.rf)|(rw[c_ (by omega)];exact Sub.rf)|(rw[dM (by omega) (by omega)];exact Sub.rf)),(.of F)⟩
   have gh: ¬a.r.e[j1].op=5:=by omega
   refine aH (ad (bo F F) (TO.qa F (ae (aw F (fun hc=>?_) (fun hc=>?_)))))
   ·have fT:a.r.e[j1].op=6:=by omega
    refine aH (ad (aJ bK F aM F F) (ad (aO 0 dh F F F F) (ah F (ad (cM F F (by omega)) (ad (aJ bK F aM F F) (ad (aO 0 dh F F F F) (ah F (ad (cM F F (by omega)) (ad (aJ bK F aM F F) (aj F (bj (vs:=[(vI (a.r.e[j1].a+(0:Int)))]) 0 aM F F F F ?_)))))))))))
    refine ad (aJ bK F aM F F) (aj F (bj (vs:=[(vI (a.r.e[j1].b+(0:Int)))]) 0 aM F F F F ?_))
    refine ae ?_
    exact⟨(by first|(rw[cZ (by omega)];exact Sub.rf)|(rw[c_ (by omega)];exact Sub.rf)|(rw[dM (by omega) (by omega)];exact Sub.rf)),(.of F)⟩
   have gh: ¬a.r.e[j1].op=6:=by omega
   refine aq ?_
   exact⟨(by first|(rw[cZ (by omega)];exact Sub.rf)|(rw[c_ (by omega)];exact Sub.rf)|(rw[dM (by omega) (by omega)];exact Sub.rf)),(.of F)⟩
  rintro ρ O ⟨hS,hH⟩
  obtain⟨eP,rfl⟩:=hH.elim
  clear hH
  refine cu hS ?_
  refine aH (ah F (ad (cN 0 bK F bQ F F F) (aj F (bH (m:=1) (parts:=[(0,_)]) (cs:=(cK 0 a.r.e[j1]).cl) cp bQ (by decide) (by kernel_rfl) F (fun z5=>?_)))))
  refine aj F (bX 2 cp cp bQ F F F F (by rw[bF]) (by decide) (Src.row (j:=0) F (by simp)) (by simp[dD]) (by simp only[List.nil_append,List.length_append,List.length_map,List.length_take];omega) (by decide) (by decide) (fun z6 AA=>?_))
  refine TO.qa F (ae (aH (ad (cj (a:=j1) (b:=1) F F (by omega)) (ah F (ae ?_)))))
  exact⟨j1+1,by omega,[ak z6 AA 72 5 ((aT ((a.r.e.take j1).map (cK 0)))++(cK 0 a.r.e[j1]).cl),oI z3 69 a.cells,oI z2 153 [(vI 0),(vI 0)],oI z1 69 [(.int .u8 0),nS]],(by exact Sub.d (.d (.k (.k (.k (.k .z)))))),z6,AA,by rw[eo e_,gg (((a.r.e.take j1).map (cK 0)))];rfl,by omega,⟨F,F,F,(congrArg (fun n9=>Value.slice z6 n9 AA) (show(((a.r.e.take j1).map (cK 0)).length)+1=(((a.r.e.take (j1+1)).map (cK 0))).length by rw[eo e_];simp only[List.length_append,List.length_cons,List.length_nil]<;>omega)),F,F,F,F,F,F,F,F,F,F,F,trivial⟩⟩
 have AB: ¬j1<a.r.e.length:=by omega
 have Gn:j1=a.r.e.length:=by omega
 have G3:0<a.r.e.length:=mU.pos OA
 have Yo:a.r.e.length≤64:=mU.len
 have Rf:((a.r.e.take j1).map (cK 0))=a.r.e:=by rw[Gn,List.take_length,show cK 0=id from funext Aw,List.map_id]
 have Gp:((a.r.e.take j1).map (cK 0)).length=a.r.e.length:=by rw[Gn];simp
 refine bn ?_
 refine aH (ah F (ah F (ad (bL cp F) (ad (gI (a:=(((a.r.e.take j1).map (cK 0)).length)) (b:=1) F F (by omega) (by omega)) (ad (ij (i:=0) rH aM F F (by decide)) (aj F (bj (vs:=[(vN ((((a.r.e.take j1).map (cK 0)).length)-1))]) 2 aM F F F F ?_)))))))
 refine ae (aH (ad (a8 (cM F F (by omega)) (v':=vI 1) F) (ah F (ae ?_))))
 refine mn [ak oa ka 72 5 (aT ((a.r.e.take j1).map (cK 0))),oI z3 69 a.cells,oI z2 153 [(vN ((((a.r.e.take j1).map (cK 0)).length)-1)),(vI 0)],oI z1 69 [(.int .u8 0),nS]] [(0,v8 op),(1,(.slice tb 2 tc)),(4,(.pointer (aD z1))),(5,(.slice oa (((a.r.e.take j1).map (cK 0)).length) ka)),(6,(.pointer (aD z2))),(7,vI 0),(8,(.pointer (aD z3))),(9,vI (0:Int)),(12,(.agg #[(vI 0),(vI 0)])),(13,(.slice tb 2 tc)),(14,vI 2),(15,vI 1)] F (.of F) (fun eP=>?_)
 refine T.round ?_
 refine ai (ad (ar (bI F F) (b':=true) F) (ae (ax ?_)))
 refine bg F ?_
 refine aq (ax (aC (ai (ah F (ad (db (i:=1) ky cg F F (aB hT) (by simp) (by rw[fS];simp)) (ad (dT (vs:=b.cells) eL F cg F F (Nat.succ_pos _) (aB hT) (mr (l:=[a,b]) (i:=1) (by simp))) (aj F (aR cg F (fun z8=>?_)))))))))
 refine TO.qa F (aj F (bj (vs:=b.cells) 0 cg F F F F ?_))
 refine ae (ax (ai (ad (aJ eL F mu F F) (ad (aO 0 sL F F F F) (ad (bo F F) (ae (aw F (fun hc=>?_) (fun hc=>?_))))))))
 ·have qf:b.k=3:=by omega
  refine ai (ad (bE (cs:=[.int .u8 3,nS]) oL cg (by kernel_rfl)) (aj F (bj (vs:=[.int .u8 3,nS]) 4 cg F F F F ?_)))
  refine ae (az (ao ?_))
  refine bf (i:=4) Tryz.results68 eL F cg F F F ?_
  exact⟨[],Sub.z,[],⟨3,⟨none,0,[]⟩⟩,F,F,(if_pos (.inr qf)).symm,.inl (.inr F)⟩
 have vp: ¬b.k=3:=by omega
 have AC: ¬b.k=3:=vp
 refine aq (ai (ah F (ad (bL cp F) (TO.qa F (ae (ax (ai (ad (aJ eL F eT F F) (ad (aO 0 cp F F F F) (ad (bL cp F) (ah F (ae (aC ?_)))))))))))))
 refine cE (fun(j2:Nat) ρ O=> ∃(ob:Option Addr) (kb:Nat),O=[oI z8 69 b.cells,ak ob kb 72 5 (aT (((a.r.e.take j1).map (cK 0))++(b.r.e.take j2).map (cK (((a.r.e.take j1).map (cK 0)).length)))),oI z3 69 a.cells,oI z2 153 [(vN ((((a.r.e.take j1).map (cK 0)).length)-1)),(vI 0)],oI z1 69 [(.int .u8 0),nS]]∧j2≤b.r.e.length∧bZ [(0,v8 op),(1,(.slice tb 2 tc)),(4,(.pointer (aD z1))),(5,(.slice ob ((((a.r.e.take j1).map (cK 0))++(b.r.e.take j2).map (cK (((a.r.e.take j1).map (cK 0)).length))).length) kb)),(6,(.pointer (aD z2))),(7,vI 1),(8,(.pointer (aD z8))),(9,vI (((a.r.e.take j1).map (cK 0)).length:Int)),(12,(.agg #[(vI 0),(vI 0)])),(13,(.slice tb 2 tc)),(14,vI 2),(15,vI 1),(27,(.slice b.r.b b.r.e.length b.r.c)),(28,vI (b.r.e.length:Int)),(29,vN j2)] ρ) (fun j2=>b.r.e.length-j2) 0 ?_ ?_
 ·exact⟨oa,ka,by rw[List.take_zero,List.map_nil,List.append_nil];rfl,Nat.zero_le _,⟨F,F,F,(congrArg (fun n9=>Value.slice oa n9 ka) (show((a.r.e.take j1).map (cK 0)).length=((((a.r.e.take j1).map (cK 0))++(b.r.e.take 0).map (cK (((a.r.e.take j1).map (cK 0)).length)))).length by rw[List.take_zero,List.map_nil,List.append_nil])),F,F,F,F,F,F,F,F,F,F,F,trivial⟩⟩
 rintro j2 ρ O ⟨ob,kb,rfl,hj,hH⟩
 obtain⟨eP,rfl⟩:=hH.elim
 clear hH
 refine ai (ad (bI F F) (ae (ax (aw F (fun hc=>?_) (fun hc=>?_)))))
 ·have e_:j2<b.r.e.length:=by omega
  have uj:ui b.r.e.length b.r.e[j2]:=qE.pc _ (List.getElem_mem e_)
  have WA:=uj.a0;have Ay:=uj.a1;have Az:=uj.b0;have Sg:=uj.b1
  have WB:a.r.e.length≤64:=mU.len
  have hp6:b.r.e.length≤64:=qE.len
  have hp7:(((a.r.e.take j1).map (cK 0))).length≤64:=by simp;omega
  refine aq (ax (aC (ai ?_)))
  refine ad (db (i:=j2) cp bQ F F (aB hb) e_ (by rw[bF];omega)) (ad (dT (vs:=b.r.e[j2].cl) bK F bQ F F (Nat.succ_pos _) (aB hb) (fp (List.getElem?_eq_getElem e_))) ?_)
  refine aj F (aR bQ F (fun z9=>?_))
  refine aj F (bj (vs:=b.r.e[j2].cl) 0 bQ F F F F ?_)
  refine ae ?_
  refine fg (fun ρ O=>Sub [oI z9 72 [.int .u8 (((cK (((a.r.e.take j1).map (cK 0)).length) b.r.e[j2]).op:Nat):Int),.int .u8 (((cK (((a.r.e.take j1).map (cK 0)).length) b.r.e[j2]).p:Nat):Int),.int .u8 (((cK (((a.r.e.take j1).map (cK 0)).length) b.r.e[j2]).n:Nat):Int),vI (cK (((a.r.e.take j1).map (cK 0)).length) b.r.e[j2]).a,vI (cK (((a.r.e.take j1).map (cK 0)).length) b.r.e[j2]).b],oI z8 69 b.cells,ak ob kb 72 5 (aT (((a.r.e.take j1).map (cK 0))++(b.r.e.take j2).map (cK (((a.r.e.take j1).map (cK 0)).length)))),oI z3 69 a.cells,oI z2 153 [(vN ((((a.r.e.take j1).map (cK 0)).length)-1)),(vI 0)],oI z1 69 [(.int .u8 0),nS]] O∧bZ [(0,v8 op),(1,(.slice tb 2 tc)),(4,(.pointer (aD z1))),(5,(.slice ob ((((a.r.e.take j1).map (cK 0))++(b.r.e.take j2).map (cK (((a.r.e.take j1).map (cK 0)).length))).length) kb)),(6,(.pointer (aD z2))),(7,vI 1),(8,(.pointer (aD z8))),(9,vI (((a.r.e.take j1).map (cK 0)).length:Int)),(11,(.pointer (aD z9))),(12,(.agg #[(vI 0),(vI 0)])),(13,(.slice tb 2 tc)),(14,vI 2),(15,vI 1),(27,(.slice b.r.b b.r.e.length b.r.c)),(28,vI (b.r.e.length:Int)),(29,vN j2)] ρ) ?_ ?_
  ·refine ax ?_
   refine aH (ad (aJ bK F cP F F) (ad (aO 0 eC F F F F) (ae (aC (ax (ai (ad (bo F F) (TO.qa F (ae (aw F (fun hc=>?_) (fun hc=>?_)))))))))))
   ·have oM:b.r.e[j2].op=7:=by omega
    refine aq (aw F (fun hc=>?_) (fun hc=>?_))
    ·have oM:b.r.e[j2].op=7:=by omega
     refine aH (ad (aJ bK F aM F F) (ad (aO 0 dh F F F F) (ah F (ad (cM F F (by omega)) (ad (aJ bK F aM F F) (aj F (bj (vs:=[(vI (b.r.e[j2].a+(((a.r.e.take j1).map (cK 0)).length:Int)))]) 0 aM F F F F ?_)))))))
     refine ae ?_
     exact⟨(by first|(rw[cZ (by omega)];exact Sub.rf)|(rw[c_ (by omega)];exact Sub.rf)|(rw[dM (by omega) (by omega)];exact Sub.rf)),(.of F)⟩
    have oN: ¬b.r.e[j2].op=7:=by omega
    refine ax (ai (ad (bo F F) (TO.qa F (ae (aw F (fun hc=>?_) (fun hc=>?_))))))
    ·have fT:b.r.e[j2].op=4:=by omega
     refine aq (aw F (fun hc=>?_) (fun hc=>?_))
     ·have fT:b.r.e[j2].op=4:=by omega
      refine aH (ad (aJ bK F aM F F) (ad (aO 0 dh F F F F) (ah F (ad (cM F F (by omega)) (ad (aJ bK F aM F F) (ad (aO 0 dh F F F F) (ah F (ad (cM F F (by omega)) (ad (aJ bK F aM F F) (aj F (bj (vs:=[(vI (b.r.e[j2].a+(((a.r.e.take j1).map (cK 0)).length:Int)))]) 0 aM F F F F ?_)))))))))))
      refine ad (aJ bK F aM F F) (aj F (bj (vs:=[(vI (b.r.e[j2].b+(((a.r.e.take j1).map (cK 0)).length:Int)))]) 0 aM F F F F ?_))
      refine ae ?_
      exact⟨(by first|(rw[cZ (by omega)];exact Sub.rf)|(rw[c_ (by omega)];exact Sub.rf)|(rw[dM (by omega) (by omega)];exact Sub.rf)),(.of F)⟩
     have gh: ¬b.r.e[j2].op=4:=by omega
     refine aq ?_
     exact⟨(by first|(rw[cZ (by omega)];exact Sub.rf)|(rw[c_ (by omega)];exact Sub.rf)|(rw[dM (by omega) (by omega)];exact Sub.rf)),(.of F)⟩
    have gh: ¬b.r.e[j2].op=4:=by omega
    refine ai (ad (bo F F) (TO.qa F (ae (aw F (fun hc=>?_) (fun hc=>?_)))))
    ·have fT:b.r.e[j2].op=5:=by omega
     refine aq (aw F (fun hc=>?_) (fun hc=>?_))
     ·have fT:b.r.e[j2].op=5:=by omega
      refine aH (ad (aJ bK F aM F F) (ad (aO 0 dh F F F F) (ah F (ad (cM F F (by omega)) (ad (aJ bK F aM F F) (ad (aO 0 dh F F F F) (ah F (ad (cM F F (by omega)) (ad (aJ bK F aM F F) (aj F (bj (vs:=[(vI (b.r.e[j2].a+(((a.r.e.take j1).map (cK 0)).length:Int)))]) 0 aM F F F F ?_)))))))))))
      refine ad (aJ bK F aM F F) (aj F (bj (vs:=[(vI (b.r.e[j2].b+(((a.r.e.take j1).map (cK 0)).length:Int)))]) 0 aM F F F F ?_))
      refine ae ?_
      exact⟨(by first|(rw[cZ (by omega)];exact Sub.rf)|(rw[c_ (by omega)];exact Sub.rf)|(rw[dM (by omega) (by omega)];exact Sub.rf)),(.of F)⟩
     have gh: ¬b.r.e[j2].op=5:=by omega
     refine aq ?_
     exact⟨(by first|(rw[cZ (by omega)];exact Sub.rf)|(rw[c_ (by omega)];exact Sub.rf)|(rw[dM (by omega) (by omega)];exact Sub.rf)),(.of F)⟩
    have gh: ¬b.r.e[j2].op=5:=by omega
    refine aH (ad (bo F F) (TO.qa F (ae (aw F (fun hc=>?_) (fun hc=>?_)))))
    ·have fT:b.r.e[j2].op=6:=by omega
     refine aH (ad (aJ bK F aM F F) (ad (aO 0 dh F F F F) (ah F (ad (cM F F (by omega)) (ad (aJ bK F aM F F) (ad (aO 0 dh F F F F) (ah F (ad (cM F F (by omega)) (ad (aJ bK F aM F F) (aj F (bj (vs:=[(vI (b.r.e[j2].a+(((a.r.e.take j1).map (cK 0)).length:Int)))]) 0 aM F F F F ?_)))))))))))
     refine ad (aJ bK F aM F F) (aj F (bj (vs:=[(vI (b.r.e[j2].b+(((a.r.e.take j1).map (cK 0)).length:Int)))]) 0 aM F F F F ?_))
     refine ae ?_
     exact⟨(by first|(rw[cZ (by omega)];exact Sub.rf)|(rw[c_ (by omega)];exact Sub.rf)|(rw[dM (by omega) (by omega)];exact Sub.rf)),(.of F)⟩
    have gh: ¬b.r.e[j2].op=6:=by omega
    refine aq ?_
    exact⟨(by first|(rw[cZ (by omega)];exact Sub.rf)|(rw[c_ (by omega)];exact Sub.rf)|(rw[dM (by omega) (by omega)];exact Sub.rf)),(.of F)⟩
   have oN: ¬b.r.e[j2].op=7:=by omega
   refine aH (ad (bo F F) (TO.qa F (ae (aw F (fun hc=>?_) (fun hc=>?_)))))
   ·have oM:b.r.e[j2].op=8:=by omega
    refine aH (ad (aJ bK F aM F F) (ad (aO 0 dh F F F F) (ah F (ad (cM F F (by omega)) (ad (aJ bK F aM F F) (aj F (bj (vs:=[(vI (b.r.e[j2].a+(((a.r.e.take j1).map (cK 0)).length:Int)))]) 0 aM F F F F ?_)))))))
    refine ae ?_
    exact⟨(by first|(rw[cZ (by omega)];exact Sub.rf)|(rw[c_ (by omega)];exact Sub.rf)|(rw[dM (by omega) (by omega)];exact Sub.rf)),(.of F)⟩
   have oN: ¬b.r.e[j2].op=8:=by omega
   refine ax (ai (ad (bo F F) (TO.qa F (ae (aw F (fun hc=>?_) (fun hc=>?_))))))
   ·have fT:b.r.e[j2].op=4:=by omega
    refine aq (aw F (fun hc=>?_) (fun hc=>?_))
    ·have fT:b.r.e[j2].op=4:=by omega
     refine aH (ad (aJ bK F aM F F) (ad (aO 0 dh F F F F) (ah F (ad (cM F F (by omega)) (ad (aJ bK F aM F F) (ad (aO 0 dh F F F F) (ah F (ad (cM F F (by omega)) (ad (aJ bK F aM F F) (aj F (bj (vs:=[(vI (b.r.e[j2].a+(((a.r.e.take j1).map (cK 0)).length:Int)))]) 0 aM F F F F ?_)))))))))))
     refine ad (aJ bK F aM F F) (aj F (bj (vs:=[(vI (b.r.e[j2].b+(((a.r.e.take j1).map (cK 0)).length:Int)))]) 0 aM F F F F ?_))
     refine ae ?_
     exact⟨(by first|(rw[cZ (by omega)];exact Sub.rf)|(rw[c_ (by omega)];exact Sub.rf)|(rw[dM (by omega) (by omega)];exact Sub.rf)),(.of F)⟩
    have gh: ¬b.r.e[j2].op=4:=by omega
    refine aq ?_
    exact⟨(by first|(rw[cZ (by omega)];exact Sub.rf)|(rw[c_ (by omega)];exact Sub.rf)|(rw[dM (by omega) (by omega)];exact Sub.rf)),(.of F)⟩
   have gh: ¬b.r.e[j2].op=4:=by omega
   refine ai (ad (bo F F) (TO.qa F (ae (aw F (fun hc=>?_) (fun hc=>?_)))))
   ·have fT:b.r.e[j2].op=5:=by omega
    refine aq (aw F (fun hc=>?_) (fun hc=>?_))
    ·have fT:b.r.e[j2].op=5:=by omega
     refine aH (ad (aJ bK F aM F F) (ad (aO 0 dh F F F F) (ah F (ad (cM F F (by omega)) (ad (aJ bK F aM F F) (ad (aO 0 dh F F F F) (ah F (ad (cM F F (by omega)) (ad (aJ bK F aM F F) (aj F (bj (vs:=[(vI (b.r.e[j2].a+(((a.r.e.take j1).map (cK 0)).length:Int)))]) 0 aM F F F F ?_)))))))))))
     refine ad (aJ bK F aM F F) (aj F (bj (vs:=[(vI (b.r.e[j2].b+(((a.r.e.take j1).map (cK 0)).length:Int)))]) 0 aM F F F F ?_))
     refine ae ?_
     exact⟨(by first|(rw[cZ (by omega)];exact Sub.rf)|(rw[c_ (by omega)];exact Sub.rf)|(rw[dM (by omega) (by omega)];exact Sub.rf)),(.of F)⟩
    have gh: ¬b.r.e[j2].op=5:=by omega
    refine aq ?_
    exact⟨(by first|(rw[cZ (by omega)];exact Sub.rf)|(rw[c_ (by omega)];exact Sub.rf)|(rw[dM (by omega) (by omega)];exact Sub.rf)),(.of F)⟩
   have gh: ¬b.r.e[j2].op=5:=by omega
   refine aH (ad (bo F F) (TO.qa F (ae (aw F (fun hc=>?_) (fun hc=>?_)))))
   ·have fT:b.r.e[j2].op=6:=by omega
    refine aH (ad (aJ bK F aM F F) (ad (aO 0 dh F F F F) (ah F (ad (cM F F (by omega)) (ad (aJ bK F aM F F) (ad (aO 0 dh F F F F) (ah F (ad (cM F F (by omega)) (ad (aJ bK F aM F F) (aj F (bj (vs:=[(vI (b.r.e[j2].a+(((a.r.e.take j1).map (cK 0)).length:Int)))]) 0 aM F F F F ?_)))))))))))
    refine ad (aJ bK F aM F F) (aj F (bj (vs:=[(vI (b.r.e[j2].b+(((a.r.e.take j1).map (cK 0)).length:Int)))]) 0 aM F F F F ?_))
    refine ae ?_
    exact⟨(by first|(rw[cZ (by omega)];exact Sub.rf)|(rw[c_ (by omega)];exact Sub.rf)|(rw[dM (by omega) (by omega)];exact Sub.rf)),(.of F)⟩
   have gh: ¬b.r.e[j2].op=6:=by omega
   refine aq ?_
   exact⟨(by first|(rw[cZ (by omega)];exact Sub.rf)|(rw[c_ (by omega)];exact Sub.rf)|(rw[dM (by omega) (by omega)];exact Sub.rf)),(.of F)⟩
  rintro ρ O ⟨hS,hH⟩
  obtain⟨eP,rfl⟩:=hH.elim
  clear hH
  refine cu hS ?_
  refine aH (ah F (ad (cN 0 bK F bQ F F F) (aj F (bH (m:=1) (parts:=[(0,_)]) (cs:=[.int .u8 (((cK (((a.r.e.take j1).map (cK 0)).length) b.r.e[j2]).op:Nat):Int),.int .u8 (((cK (((a.r.e.take j1).map (cK 0)).length) b.r.e[j2]).p:Nat):Int),.int .u8 (((cK (((a.r.e.take j1).map (cK 0)).length) b.r.e[j2]).n:Nat):Int),vI (cK (((a.r.e.take j1).map (cK 0)).length) b.r.e[j2]).a,vI (cK (((a.r.e.take j1).map (cK 0)).length) b.r.e[j2]).b]) cp bQ (by decide) (by kernel_rfl) F (fun uk=>?_)))))
  refine aj F (bX 3 cp cp bQ F F F F (by rw[bF]) (by decide) (Src.row (j:=0) F (by simp)) (by simp[dD]) (by simp only[List.nil_append,List.length_append,List.length_map,List.length_take];omega) (by decide) (by decide) (fun mM iz=>?_))
  refine TO.qa F (ae (aH (ad (cj (a:=j2) (b:=1) F F (by omega)) (ah F (ae ?_)))))
  exact⟨j2+1,by omega,[oI z8 69 b.cells,ak mM iz 72 5 ((aT (((a.r.e.take j1).map (cK 0))++(b.r.e.take j2).map (cK (((a.r.e.take j1).map (cK 0)).length))))++[.int .u8 (((cK (((a.r.e.take j1).map (cK 0)).length) b.r.e[j2]).op:Nat):Int),.int .u8 (((cK (((a.r.e.take j1).map (cK 0)).length) b.r.e[j2]).p:Nat):Int),.int .u8 (((cK (((a.r.e.take j1).map (cK 0)).length) b.r.e[j2]).n:Nat):Int),vI (cK (((a.r.e.take j1).map (cK 0)).length) b.r.e[j2]).a,vI (cK (((a.r.e.take j1).map (cK 0)).length) b.r.e[j2]).b]),oI z3 69 a.cells,oI z2 153 [(vN ((((a.r.e.take j1).map (cK 0)).length)-1)),(vI 0)],oI z1 69 [(.int .u8 0),nS]],(by exact Sub.d (.d (.k (.k (.k (.k (.k .z))))))),mM,iz,by rw[eo e_,←List.append_assoc,gg ((((a.r.e.take j1).map (cK 0))++(b.r.e.take j2).map (cK (((a.r.e.take j1).map (cK 0)).length))))];rfl,by omega,⟨F,F,F,(congrArg (fun n9=>Value.slice mM n9 iz) (show((((a.r.e.take j1).map (cK 0))++(b.r.e.take j2).map (cK (((a.r.e.take j1).map (cK 0)).length))).length)+1=((((a.r.e.take j1).map (cK 0))++(b.r.e.take (j2+1)).map (cK (((a.r.e.take j1).map (cK 0)).length)))).length by rw[eo e_,←List.append_assoc];simp only[List.length_append,List.length_cons,List.length_nil]<;>omega)),F,F,F,F,F,F,F,F,F,F,F,trivial⟩⟩
 have AB: ¬j2<b.r.e.length:=by omega
 have Gn:j2=b.r.e.length:=by omega
 have G3:0<b.r.e.length:=qE.pos AC
 have Yo:a.r.e.length≤64:=mU.len
 have MQ:(((a.r.e.take j1).map (cK 0))++(b.r.e.take j2).map (cK ((a.r.e.take j1).map (cK 0)).length))=a.r.e++b.r.e.map (cK a.r.e.length):=by rw[Rf,Gn,List.take_length]
 have hqb:b.r.e.length≤64:=qE.len
 have Sh:(((a.r.e.take j1).map (cK 0))++(b.r.e.take j2).map (cK ((a.r.e.take j1).map (cK 0)).length)).length=a.r.e.length+b.r.e.length:=by rw[List.length_append,Gp,Gn];simp
 refine bn ?_
 refine aH (ah F (ah F (ad (bL cp F) (ad (gI (a:=((((a.r.e.take j1).map (cK 0))++(b.r.e.take j2).map (cK (((a.r.e.take j1).map (cK 0)).length))).length)) (b:=1) F F (by omega) (by omega)) (ad (ij (i:=1) rH aM F F (by decide)) (aj F (bj (vs:=[(vI ((((((a.r.e.take j1).map (cK 0))++(b.r.e.take j2).map (cK (((a.r.e.take j1).map (cK 0)).length))).length)-1:Nat):Int))]) 3 aM F F F F ?_)))))))
 refine ae (aH (ad (a8 (cM F F (by omega)) (v':=vI 2) F) (ah F (ae ?_))))
 refine mn [oI z8 69 b.cells,ak ob kb 72 5 (aT (((a.r.e.take j1).map (cK 0))++(b.r.e.take j2).map (cK (((a.r.e.take j1).map (cK 0)).length)))),oI z3 69 a.cells,oI z2 153 [(vN ((((a.r.e.take j1).map (cK 0)).length)-1)),(vI ((((((a.r.e.take j1).map (cK 0))++(b.r.e.take j2).map (cK (((a.r.e.take j1).map (cK 0)).length))).length)-1:Nat):Int))],oI z1 69 [(.int .u8 0),nS]] [(0,v8 op),(1,(.slice tb 2 tc)),(4,(.pointer (aD z1))),(5,(.slice ob ((((a.r.e.take j1).map (cK 0))++(b.r.e.take j2).map (cK (((a.r.e.take j1).map (cK 0)).length))).length) kb)),(6,(.pointer (aD z2))),(7,vI 1),(8,(.pointer (aD z8))),(9,vI (((a.r.e.take j1).map (cK 0)).length:Int)),(12,(.agg #[(vI 0),(vI 0)])),(13,(.slice tb 2 tc)),(14,vI 2),(15,vI 2)] F (.of F) (fun eP=>?_)
 refine T.round ?_
 refine ai (ad (ar (bI F F) (b':=false) F) (ae (ax (aL F ?_))))
 refine bn ?_
 refine ai (ah F (ah F (ad (ij (i:=0) rH aM F F (by decide)) (ad (aO 3 dh F F F F) (ad (ij (i:=1) rH aM F F (by decide)) (ad (aO 3 dh F F F F) (ad (bE (cs:=[v8 op,(.int .u8 0),(.int .u8 0),(vN ((((a.r.e.take j1).map (cK 0)).length)-1)),(vI ((((((a.r.e.take j1).map (cK 0))++(b.r.e.take j2).map (cK (((a.r.e.take j1).map (cK 0)).length))).length)-1:Nat):Int))]) iy bQ (by kernel_rfl)) (aj F (bH (m:=1) (parts:=[(0,_)]) (cs:=[v8 op,(.int .u8 0),(.int .u8 0),(vN ((((a.r.e.take j1).map (cK 0)).length)-1)),(vI ((((((a.r.e.take j1).map (cK 0))++(b.r.e.take j2).map (cK (((a.r.e.take j1).map (cK 0)).length))).length)-1:Nat):Int))]) cp bQ (by decide) (by kernel_rfl) F (fun sM=>?_))))))))))
 refine aj F (bX 2 cp cp bQ F F F F (by rw[bF]) (by decide) (Src.row (j:=0) F (by simp)) (by simp[dD]) (by simp only[List.nil_append,List.length_append,List.length_map,List.length_take];omega) (by decide) (by decide) (fun uy vq=>?_))
 refine TO.qa F (ae (ax (ai (ah F (ad (bL cp F) (ad (fw F F) (ae (aw F (fun hc=>?_) (fun hc=>?_)))))))))
 ·have Hf:((((a.r.e.take j1).map (cK 0))++(b.r.e.take j2).map (cK (((a.r.e.take j1).map (cK 0)).length))).length)+1>64:=by omega
  have hL:=Hf
  refine ai (ad (bE (cs:=[.int .u8 3,nS]) oL cg (by kernel_rfl)) (aj F (bj (vs:=[.int .u8 3,nS]) 5 cg F F F F ?_)))
  refine ae (az (ao ?_))
  refine bf (i:=5) Tryz.results68 eL F cg F F F ?_
  exact⟨[],Sub.z,[],⟨3,⟨none,0,[]⟩⟩,F,F,(CC OA AC (by rw[MQ]at hL;simpa using hL)).symm,.inl (.inr F)⟩
 have Hg: ¬((((a.r.e.take j1).map (cK 0))++(b.r.e.take j2).map (cK (((a.r.e.take j1).map (cK 0)).length))).length)+1>64:=by omega
 have hL:=Hg
 refine aq (ai (ah F (ad (bE (cs:=[(.int .u8 0),(.slice uy (((((a.r.e.take j1).map (cK 0))++(b.r.e.take j2).map (cK (((a.r.e.take j1).map (cK 0)).length))).length)+1) vq)]) oL cg (by kernel_rfl)) (aj F (bj (vs:=[(.int .u8 0),(.slice uy (((((a.r.e.take j1).map (cK 0))++(b.r.e.take j2).map (cK (((a.r.e.take j1).map (cK 0)).length))).length)+1) vq)]) 5 cg F F F F ?_)))))
 refine ae (az (ao ?_))
 refine bf (i:=5) Tryz.results68 eL F cg F F F ?_
 have Hh:=FA (op:=op) OA AC (by rw[MQ]at hL;simpa using hL)
 exact⟨[ak uy vq 72 5 ((aT (((a.r.e.take j1).map (cK 0))++(b.r.e.take j2).map (cK (((a.r.e.take j1).map (cK 0)).length))))++[v8 op,(.int .u8 0),(.int .u8 0),(vN ((((a.r.e.take j1).map (cK 0)).length)-1)),(vI ((((((a.r.e.take j1).map (cK 0))++(b.r.e.take j2).map (cK (((a.r.e.take j1).map (cK 0)).length))).length)-1:Nat):Int))])],(by exact Sub.d (.d (.k .z))),[⟨uy,vq,(kx op a.pp b.pp).2⟩],⟨0,⟨uy,vq,(kx op a.pp b.pp).2⟩⟩,congrArg (fun n9=>Value.agg #[.int .u8 0,.slice uy n9 vq]) (show((((a.r.e.take j1).map (cK 0))++(b.r.e.take j2).map (cK (((a.r.e.take j1).map (cK 0)).length))).length)+1=((kx op a.pp b.pp).2).length by rw[Hh,MQ];first|(simp;done)|(simp;omega)),congrArg (fun z=>[ak uy vq 72 5 z]) (show(aT (((a.r.e.take j1).map (cK 0))++(b.r.e.take j2).map (cK (((a.r.e.take j1).map (cK 0)).length))))++[v8 op,(.int .u8 0),(.int .u8 0),(vN ((((a.r.e.take j1).map (cK 0)).length)-1)),(vI ((((((a.r.e.take j1).map (cK 0))++(b.r.e.take j2).map (cK (((a.r.e.take j1).map (cK 0)).length))).length)-1:Nat):Int))]=aT ((kx op a.pp b.pp).2) by rw[Hh,MQ,gg];first|(simp[aT,dE.cells];done)|(simp[aT,dE.cells];omega)),by rw[Hh];rfl,.inl (.inl (List.mem_singleton.2 F))⟩
theorem iA {a b:PR} (h:a.k=1):qC a.pp b.pp=b.pp:=if_pos h
theorem gZ {a b:PR} (h: ¬a.k=1) (h2:b.k=1∨(a.k≠3∧a.r.e=b.r.e)):qC a.pp b.pp=a.pp:=(if_neg h).trans (if_pos h2)
theorem nE {a b:PR} (h: ¬a.k=1) (h2: ¬(b.k=1∨(a.k≠3∧a.r.e=b.r.e))):qC a.pp b.pp=kx 5 a.pp b.pp:=(if_neg h).trans (if_neg h2)
theorem iB {a b:PR} (h:a.k=1∨b.k=2):oK a.pp b.pp=a.pp:=if_pos h
theorem mV {a b:PR} (h: ¬(a.k=1∨b.k=2)) (h2:b.k=1∨a.k=2):oK a.pp b.pp=b.pp:=(if_neg h).trans (if_pos h2)
theorem vu {a b:PR} (h: ¬(a.k=1∨b.k=2)) (h2: ¬(b.k=1∨a.k=2)):oK a.pp b.pp=kx 4 a.pp b.pp:=(if_neg h).trans (if_neg h2)
theorem pH {a:PR} (h:a.k=1∨a.k=2):rF a.pp=(2,[⟨2,0,0,0,0⟩]):=if_pos h
theorem xL {a:PR} (h: ¬(a.k=1∨a.k=2)):rF a.pp=lE 8 a.pp:=if_neg h
theorem OC (w:World) [cG Tryz.prog w] (a b:PR) (ha:Sl w a.r.b (aT a.r.e)) (mU:dv a.pp) (hb:Sl w b.r.b (aT b.r.e)) (qE:dv b.pp):
  bs Tryz.prog 40 [a.val,b.val] w (Re 72 [a,b] (qC a.pp b.pp)):=by
 refine av func40 F ntmps40 F ?_
 refine ai (aj F (cL (cs:=a.cells) F F (fun z1=>?_)))
 refine aj F (cL (cs:=b.cells) F F (fun z2=>?_))
 refine aj F (aR cg F (fun z3=>?_))
 refine ae (ax (aC (ai (ad (aJ eL F mu F F) (ad (aO 2 sL F F F F) (ad (bo F F) (TO.qa F (ae (aw F (fun hc=>?_) (fun hc=>?_))))))))))
 ·have WC:a.k=1:=by omega
  refine ai (ad (cN 1 eL F cg F F F) (aj F (bj (vs:=b.cells) 0 cg F F F F ?_)))
  refine ae (az (ao ?_))
  refine bf (i:=0) Tryz.results40 eL F cg F F F ?_
  exact⟨[],Sub.z,[],b,F,F,Eq.symm (by first|exact iA ‹_›|exact gZ ‹_› hc|exact iB (by omega)|exact mV (by omega) (by omega)),.inr ⟨b,by simp,F⟩⟩
 have WD: ¬a.k=1:=by omega
 refine fg (fun ρ O=>Sub [oI z3 69 [(.int .u8 0),nS],oI z2 69 b.cells,oI z1 69 a.cells] O∧bZ [(0,a.val),(1,b.val),(2,(.pointer (aD z1))),(3,(.pointer (aD z2))),(4,(.pointer (aD z3))),(5,.bool (decide (((a.k:Nat):Int)=1))),(10,.bool (decide (b.k=1∨(a.k≠3∧a.r.e=b.r.e))))] ρ) ?_ ?_
 ·refine aH ?_
  refine ad (aJ eL F mu F F) (ad (aO 1 sL F F F F) ?_)
  by_cases Yp:((b.k:Nat):Int)=1
  ·refine ad (ar (bo F F) (decide_eq_true Yp)) ?_
   refine ah F (ay F F (ay F F (ay F F (ay F F (ay F F (ay F F (ay F F ?_)))))))
   refine ay F F (ay F F (ay F F (ad (bt F F) (TO.qa F (ae ?_)))))
   exact⟨(by exact Sub.rf),⟨F,F,F,F,F,F,(congrArg Value.bool (decide_eq_true (by exact .inl (by omega))).symm),trivial⟩⟩
  refine ad (ar (bo F F) (decide_eq_false Yp)) (ah F (ap F F (aJ eL F mu F F) (ap F F (aO 2 sL F F F F) ?_)))
  by_cases Yq:((a.k:Nat):Int)≠3
  ·refine ap F F (ar (cS F F) (decide_eq_true Yq)) ?_
   refine ap F F (aF F) (ap F F (aJ eL F eT F F) (ap F F (aO 2 cp F F F F) (ap F F (aJ eL F eT F F) (ap F F (aO 1 cp F F F F) ?_))))
   refine fL F F F (aI Si (aE fun w1 hI=>(haveI:=dp hI;KE w1 a.r.b b.r.b a.r.c b.r.c a.r.e b.r.e (hI.sl ha) (hI.sl hb) (by have:=mU.len;have:a.r.e.length≤64:=this;omega))) F ?_)
   rintro vr O' ⟨N,rfl,rfl,rfl⟩
   refine ap F F (bt F F) (ad (aZ F F) (TO.qa F (ae ?_)))
   exact⟨(by exact Sub.rf),⟨F,F,F,F,F,F,(congrArg Value.bool (decide_eq_decide.2 ⟨fun h=>.inr ⟨by omega,h⟩,fun h=>h.elim (fun h=>by omega) (fun h=>h.2)⟩)),trivial⟩⟩
  refine ap F F (ar (cS F F) (decide_eq_false Yq)) (ap F F (aF F) (ay F F (ay F F (ay F F (ay F F (ay F F (ap F F (aZ F F) ?_)))))))
  refine ad (aZ F F) (TO.qa F (ae ?_))
  exact⟨(by exact Sub.rf),⟨F,F,F,F,F,F,(congrArg Value.bool (decide_eq_false (by intro h9;rcases h9 with h9|h9<;>omega)).symm),trivial⟩⟩
 rintro ρ O ⟨hS,hH⟩
 obtain⟨eP,rfl⟩:=hH.elim
 clear hH
 refine cu hS ?_
 refine aw F (fun hc=>?_) (fun hc=>?_)
 ·refine ax ?_
  refine aH (ad (cN 2 eL F cg F F F) (aj F (bj (vs:=a.cells) 0 cg F F F F ?_)))
  refine ae (az (ao ?_))
  refine bf (i:=0) Tryz.results40 eL F cg F F F ?_
  exact⟨[],Sub.z,[],a,F,F,Eq.symm (by first|exact iA ‹_›|exact gZ ‹_› hc|exact iB (by omega)|exact mV (by omega) (by omega)),.inr ⟨a,by simp,F⟩⟩
 let dS:List Value:=[v8 a.k,(.slice a.r.b a.r.e.length a.r.c),v8 b.k,(.slice b.r.b b.r.e.length b.r.c)]
 refine aq (ai (ad (cN 2 eL F cg F F F) (ad (cN 1 eL F cg F F F) (aj F (bH (m:=2) (parts:=[(0,_),(1,_)]) (cs:=dS) ky cg (by decide) (by kernel_rfl) F (fun z4=>?_))))))
 refine aj F (aI Hj (aE fun w1 hI=>(haveI:=dp hI;Hi w1 5 (aD z4) 2 a b (hI.eV (mG 0 F)) (hI.sl ha) mU (hI.sl hb) qE)) F ?_)
 rintro vr O' ⟨N,rfl,qs,c,rfl,rfl,pI,rj⟩
 refine bM (O':=([ak (aD z4) 2 69 2 dS,oI z3 69 [(.int .u8 0),nS],oI z2 69 b.cells,oI z1 69 a.cells]++(aY 72 qs))) (by exact dm [] _ (aY 72 qs)) ?_
 refine aj F (bj (vs:=c.cells) 1 cg F F F F ?_)
 refine ae (az (ao ?_))
 refine bf (i:=1) Tryz.results40 eL F cg F F F ?_
 exact⟨aY 72 qs,(by exact Sub.d (.d (.d (.d .rf)))),qs,c,F,F,pI.trans (nE ‹_› hc).symm,rj⟩
theorem MS (w:World) [cG Tryz.prog w] (a b:PR) (ha:Sl w a.r.b (aT a.r.e)) (mU:dv a.pp) (hb:Sl w b.r.b (aT b.r.e)) (qE:dv b.pp):
  bs Tryz.prog 41 [a.val,b.val] w (Re 72 [a,b] (oK a.pp b.pp)):=by
 refine av func41 F ntmps41 F ?_
 refine ai (aj F (cL (cs:=a.cells) F F (fun z1=>?_)))
 refine aj F (cL (cs:=b.cells) F F (fun z2=>?_))
 refine aj F (aR cg F (fun z3=>?_))
 refine ae (ax (aC (ai (ad (aJ eL F mu F F) (ad (aO 2 sL F F F F) ?_)))))
 by_cases h8:((a.k:Nat):Int)=1
 ·refine ad (ar (bo F F) (decide_eq_true h8)) ?_
  refine ah F (ay F F (ay F F (ay F F (ad (bt F F) (TO.qa F (ae ?_))))))
  refine bg F ?_
  refine ai (ad (cN 2 eL F cg F F F) (aj F (bj (vs:=a.cells) 0 cg F F F F ?_)))
  refine ae (az (ao ?_))
  refine bf (i:=0) Tryz.results41 eL F cg F F F ?_
  exact⟨[],Sub.z,[],a,F,F,Eq.symm (by first|exact iA ‹_›|exact gZ ‹_› hc|exact iB (by omega)|exact mV (by omega) (by omega)),.inr ⟨a,by simp,F⟩⟩
 refine ad (ar (bo F F) (decide_eq_false h8)) (ah F (ap F F (aJ eL F mu F F) (ap F F (aO 1 sL F F F F) ?_)))
 by_cases qg:((b.k:Nat):Int)=2
 ·refine ap F F (ar (bo F F) (decide_eq_true qg)) ?_
  refine ad (aZ F F) (TO.qa F (ae ?_))
  refine bg F ?_
  refine ai (ad (cN 2 eL F cg F F F) (aj F (bj (vs:=a.cells) 0 cg F F F F ?_)))
  refine ae (az (ao ?_))
  refine bf (i:=0) Tryz.results41 eL F cg F F F ?_
  exact⟨[],Sub.z,[],a,F,F,Eq.symm (by first|exact iA ‹_›|exact gZ ‹_› hc|exact iB (by omega)|exact mV (by omega) (by omega)),.inr ⟨a,by simp,F⟩⟩
 refine ap F F (ar (bo F F) (decide_eq_false qg)) (ad (aZ F F) (TO.qa F (ae (aL F (ai (ad (aJ eL F mu F F) (ad (aO 1 sL F F F F) ?_)))))))
 by_cases Yr:((b.k:Nat):Int)=1
 ·refine ad (ar (bo F F) (decide_eq_true Yr)) ?_
  refine ah F (ay F F (ay F F (ay F F (ad (bt F F) (TO.qa F (ae ?_))))))
  refine bg F ?_
  refine ai (ad (cN 1 eL F cg F F F) (aj F (bj (vs:=b.cells) 0 cg F F F F ?_)))
  refine ae (az (ao ?_))
  refine bf (i:=0) Tryz.results41 eL F cg F F F ?_
  exact⟨[],Sub.z,[],b,F,F,Eq.symm (by first|exact iA ‹_›|exact gZ ‹_› hc|exact iB (by omega)|exact mV (by omega) (by omega)),.inr ⟨b,by simp,F⟩⟩
 refine ad (ar (bo F F) (decide_eq_false Yr)) (ah F (ap F F (aJ eL F mu F F) (ap F F (aO 2 sL F F F F) ?_)))
 by_cases Ys:((a.k:Nat):Int)=2
 ·refine ap F F (ar (bo F F) (decide_eq_true Ys)) ?_
  refine ad (aZ F F) (TO.qa F (ae ?_))
  refine bg F ?_
  refine ai (ad (cN 1 eL F cg F F F) (aj F (bj (vs:=b.cells) 0 cg F F F F ?_)))
  refine ae (az (ao ?_))
  refine bf (i:=0) Tryz.results41 eL F cg F F F ?_
  exact⟨[],Sub.z,[],b,F,F,Eq.symm (by first|exact iA ‹_›|exact gZ ‹_› hc|exact iB (by omega)|exact mV (by omega) (by omega)),.inr ⟨b,by simp,F⟩⟩
 let gz:List Value:=[v8 a.k,(.slice a.r.b a.r.e.length a.r.c),v8 b.k,(.slice b.r.b b.r.e.length b.r.c)]
 refine ap F F (ar (bo F F) (decide_eq_false Ys)) (ad (aZ F F) (TO.qa F (ae (aL F (aq (ai (ad (cN 2 eL F cg F F F) (ad (cN 1 eL F cg F F F) (aj F (bH (m:=2) (parts:=[(0,_),(1,_)]) (cs:=gz) ky cg (by decide) (by kernel_rfl) F (fun z4=>?_)))))))))))
 refine aj F (aI Hj (aE fun w1 hI=>(haveI:=dp hI;Hi w1 4 (aD z4) 2 a b (hI.eV (mG 0 F)) (hI.sl ha) mU (hI.sl hb) qE)) F ?_)
 rintro vr O' ⟨N,rfl,qs,c,rfl,rfl,pI,rj⟩
 refine bM (O':=([ak (aD z4) 2 69 2 gz,oI z3 69 [(.int .u8 0),nS],oI z2 69 b.cells,oI z1 69 a.cells]++(aY 72 qs))) (by exact dm [] _ (aY 72 qs)) ?_
 refine aj F (bj (vs:=c.cells) 1 cg F F F F ?_)
 refine ae (az (ao ?_))
 refine bf (i:=1) Tryz.results41 eL F cg F F F ?_
 exact⟨aY 72 qs,(by exact Sub.d (.d (.d (.d .rf)))),qs,c,F,F,pI.trans (vu (by omega) (by omega)).symm,rj⟩
theorem OD (w:World) [cG Tryz.prog w] (a:PR) (ha:Sl w a.r.b (aT a.r.e)) (mU:dv a.pp):
  bs Tryz.prog 42 [a.val] w (Re 72 [a] (rF a.pp)):=by
 refine av func42 F ntmps42 F ?_
 refine ai (aj F (cL (cs:=a.cells) F F (fun z1=>?_)))
 refine aj F (aR cg F (fun z2=>?_))
 refine ae (ax (ai (ad (aJ eL F mu F F) (ad (aO 1 sL F F F F) ?_))))
 by_cases h5:((a.k:Nat):Int)=1
 ·refine ad (ar (bo F F) (decide_eq_true h5)) ?_
  refine ah F (ay F F (ay F F (ay F F (ad (bt F F) (ae ?_)))))
  refine bg F ?_
  refine ai (ad (bE (cs:=[.int .u8 2,(.int .u8 0),(.int .u8 0),(vI 0),(vI 0)]) iy bQ (by kernel_rfl)) (aj F (aI AD (aE fun w1 hI=>(haveI:=dp hI;vo w1 2 ⟨2,0,0,0,0⟩)) F ?_)))
  rintro vr O' ⟨N,rfl,qs,c,rfl,rfl,pI,rj⟩
  refine bM (O':=([oI z2 69 [(.int .u8 0),nS],oI z1 69 a.cells]++(aY 72 qs))) (by exact dm [] _ (aY 72 qs)) ?_
  refine aj F (bj (vs:=c.cells) 0 cg F F F F ?_)
  refine ae (az (ao ?_))
  refine bf (i:=0) Tryz.results42 eL F cg F F F ?_
  exact⟨aY 72 qs,(by exact Sub.d (.d .rf)),qs,c,F,F,pI.trans (pH (by omega)).symm,rj.elim .inl (fun h=>absurd h (by simp))⟩
 refine ad (ar (bo F F) (decide_eq_false h5)) (ah F (ap F F (aJ eL F mu F F) (ap F F (aO 1 sL F F F F) ?_)))
 by_cases h9:((a.k:Nat):Int)=2
 ·refine ap F F (ar (bo F F) (decide_eq_true h9)) ?_
  refine ad (aZ F F) (ae ?_)
  refine bg F ?_
  refine ai (ad (bE (cs:=[.int .u8 2,(.int .u8 0),(.int .u8 0),(vI 0),(vI 0)]) iy bQ (by kernel_rfl)) (aj F (aI AD (aE fun w1 hI=>(haveI:=dp hI;vo w1 2 ⟨2,0,0,0,0⟩)) F ?_)))
  rintro vr O' ⟨N,rfl,qs,c,rfl,rfl,pI,rj⟩
  refine bM (O':=([oI z2 69 [(.int .u8 0),nS],oI z1 69 a.cells]++(aY 72 qs))) (by exact dm [] _ (aY 72 qs)) ?_
  refine aj F (bj (vs:=c.cells) 0 cg F F F F ?_)
  refine ae (az (ao ?_))
  refine bf (i:=0) Tryz.results42 eL F cg F F F ?_
  exact⟨aY 72 qs,(by exact Sub.d (.d .rf)),qs,c,F,F,pI.trans (pH (by omega)).symm,rj.elim .inl (fun h=>absurd h (by simp))⟩
 refine ap F F (ar (bo F F) (decide_eq_false h9)) (ad (aZ F F) (ae (aL F (aq (ai (ad (cN 1 eL F cg F F F) (aj F (bH (m:=1) (parts:=[(0,_)]) (cs:=a.cells) ky cg (by decide) (by kernel_rfl) F (fun z3=>?_)))))))))
 refine aj F (aI Hj (aE fun w1 hI=>(haveI:=dp hI;Oz w1 8 (aD z3) 1 a (hI.eV (mG 0 F)) (hI.sl ha) mU)) F ?_)
 rintro vr O' ⟨N,rfl,qs,c,rfl,rfl,pI,rj⟩
 refine bM (O':=([ak (aD z3) 1 69 2 a.cells,oI z2 69 [(.int .u8 0),nS],oI z1 69 a.cells]++(aY 72 qs))) (by exact dm [] _ (aY 72 qs)) ?_
 refine aj F (bj (vs:=c.cells) 1 cg F F F F ?_)
 refine ae (az (ao ?_))
 refine bf (i:=1) Tryz.results42 eL F cg F F F ?_
 exact⟨aY 72 qs,(by exact Sub.d (.d (.d .rf))),qs,c,F,F,pI.trans (xL (by omega)).symm,rj⟩
end Go.Proofs.YtgdbfideeeegmaaGreatDoor

namespace Go.Lx
open Go.RowKit
section
variable {P:Program} {base:World} {n:Nat} {ops:Array Oper} {ds:List Deferred} {M:List Item} {Qf:Exit→Act→World→Prop} {ρ:Env} {O:List Item} {l:List Oper}
def TG (P:Program) (base:World) (n:Nat) (ops:Array Oper) (ds:List Deferred) (M:List Item) (Qf:Exit→Act→World→Prop) (l:List Oper) (ρ:Env) (O:List Item):Prop:=
 ∀a w,Ag n ds a ρ→Inv base (O++M) w→wpListIn (Fr none) 0 P ops Qf l a w
theorem TG.region {id:Nat} {l:List Oper} {a:Act} {w:World} (h:TG P base n l.toArray ds M Qf l ρ O) (ha:Ag n ds a ρ) (hI:Inv base (O++M) w):(Code.region id l.toArray false).wpIn (Fr none) 0 P Qf a w:=wpIn_region_lit (h a w ha hI)
theorem TG.nil (h: ∀a w,Ag n ds a ρ→Inv base (O++M) w→Qf .normal a w):TG P base n ops ds M Qf [] ρ O:=fun a w ha hI=>wpListIn_nil (h a w ha hI)
theorem fu {o:Oper} (hg:o.guard=none) (h:LT P none base n o ρ O (fun fP O'=>TG P base n ops ds M Qf l fP O')):TG P base n ops ds M Qf (o::l) ρ O:=
 fun a w ha hI=>wpListIn_plain hg fun next dU=>h a w M ds ha hI next _ fun a' _ _ w' h1 h2 h3=>dU a' w' (h3 a' w' h1 h2)
theorem cY {d:Nat} {op:Op} {t:TypeId} {p:String} {af:Array Edge} {v:Value} (h:QT P base ⟨some d,op,t,p,af,none⟩ ρ O v) (hk:TG P base n ops ds M Qf l (np ρ d v) O) (hn:Nat.blt d n=true:=by rfl):TG P base n ops ds M Qf (⟨some d,op,t,p,af,none⟩::l) ρ O:=
 fu F (dG F hn h hk)
theorem TG.defer {t:TypeId} {p:String} {af:Array Edge} {wW:Array TypeId} {x:Operand} {f:FuncId} {fK:Array Value} (hx:ev ρ x=.func (.func f) #[] fK)
  (hk:TG P base n ops ({target:=.fn (.func f) fK,args:= #[]}::ds) M Qf l ρ O):TG P base n ops ds M Qf (⟨none,.defer ⟨.value x,#[],wW⟩,t,p,af,none⟩::l) ρ O:=fun a w ha hI=>
 wpListIn_plain F fun next dU=>by
  refine⟨fun _ _=>trivial,?_⟩
  have hr:(Oper.semAt (Fr none).round a.eval ⟨none,.defer ⟨.value x,#[],wW⟩,t,p,af,none⟩).run P w=.ok (.defer {target:=.fn (.func f) fK,args:= #[]}) w:=by
   rw[ha.eval]
   rw[show(Fr none).round=none from F,Oper.semAt_none]
   simp[execOp,resolve,Deferred.ofValue,hx]
  rw[hr,Oper.uponIn_defer]
  refine dU _ _ (hk _ _ ⟨fun t=>?_,?_,?_⟩ hI)
  ·exact ha.tmp t
  ·exact ha.size
  ·show _::a.defers=_;rw[ha.defers]
theorem lh {o:Oper} {j tj:Nat} {want:Bool} (hg:o.guard=some (j,want)) (hj:(ops[j]?).bind (·.dst)=some tj) (hw:ρ tj=.bool want)
  (h:LT P none base n o ρ O (fun fP O'=>TG P base n ops ds M Qf l fP O')):TG P base n ops ds M Qf (o::l) ρ O:=by
 intro a w ha hi
 refine wpListIn_step fun next dU=>?_
 have hy:=ir (ops:=ops) ha hj
 rw[hw]at hy
 have ou:Region.wanted o (yielded ops a.tmps)=true:=by unfold Region.wanted;rw[hg];simp[hy,J3]
 rw[if_pos ou]
 exact h a w M ds ha hi next _ fun a' _ _ w' h1 h2 h3=>dU a' w' (h3 a' w' h1 h2)
theorem tP {d:Nat} {op:Op} {t:TypeId} {p:String} {af:Array Edge} {j tj:Nat} {want:Bool} (hj:(ops[j]?).bind (·.dst)=some tj) (hw:(J3 (ρ tj)==some want)=false) (hk:TG P base n ops ds M Qf l (np ρ d undef) O) (hn:Nat.blt d n=true:=by rfl):
  TG P base n ops ds M Qf (⟨some d,op,t,p,af,some (j,want)⟩::l) ρ O:=by
 intro a w ha hi
 refine wpListIn_step fun next dU=>?_
 have hy:=ir (ops:=ops) ha hj
 have ou:Region.wanted ⟨some d,op,t,p,af,some (j,want)⟩ (yielded ops a.tmps)=false:=by unfold Region.wanted;simp only[hy];exact hw
 rw[ou]
 exact⟨fun _ _=>trivial,dU _ _ (hk _ _ (ha.put hn undef) hi)⟩
theorem Dk {d:Nat} {t:TypeId} {p:String} {af:Array Edge} {f:FuncId} {fn:Func} {tm:Value} {args:List Operand} {wW:Array TypeId} {vs:List Value} {R:Value→List Item→Prop} {Z:Prop} (he:Enters P f fn)
  (hc: ∀w,Inv base (O++M) w→dq P w tm f vs [] R Z) (ha:Ff ρ args=vs) (hz: ∀a w,Ag n ds a ρ→Inv base (O++M) w→Z→Qf (.panic [{v:=tm,recovered:=false}]) a w) (h: ∀v N,R v N→TG P base n ops ds M Qf l (np ρ d v) (N++O)) (hn:Nat.blt d n=true:=by rfl):
  TG P base n ops ds M Qf (⟨some d,.call ⟨.value (.func f),args.toArray,wW⟩,t,p,af,none⟩::l) ρ O:=by
 subst ha
 intro a w ha hi
 refine wpListIn_plain F fun next dU=>?_
 have rz: ¬fn.name= "runtime.NumGoroutine" :=by simpa using he.2.1
 obtain⟨bd,Kx⟩:=Option.isSome_iff_exists.1 he.2.2
 have hr:(execOp a.eval ⟨some d,.call ⟨.value (.func f),args.toArray,wW⟩,t,p,af,none⟩).run P w=.ok (.enter f (Ff ρ args).toArray) w:=by
  rw[ha.eval,qz]
  simp[jC,ev,Deferred.ofValue,invoke,callFunc,he.1,rz,Kx]
 refine j9 (by intro c e;cases e) ?_
 rw[hr,Oper.uponIn_enter]
 refine⟨fun e=>by simp[Fr,Fence.wide]at e,lC (Calls.mono (hc w hi w [] (Inv.refl w)) ?_)⟩
 rintro e w' (⟨v,O',rfl,mh,hR⟩|⟨rfl,mh,hZ⟩)
 ·refine dU _ _ (h v O' hR _ _ (ha.put hn v) ?_)
  have:=hi.call mh
  simpa[List.append_assoc]using this
 ·refine hz _ _ ha ?_ hZ
  have:=hi.call mh
  simpa using this
end
end Go.Lx

namespace Go.Proofs.YtgdbfideeeegmaaGreatDoor
open Go.Lx Go.RowKit _root_.Go.Proofs.Tryz
theorem LW (w:World) (p q:Addr):CallsDIn Fence.wide 0 Tryz.prog 45 #[.pointer (some p),.pointer (some q)] .returning w fun e u' w'=>e=.returned (.tuple #[])∧u'=.returning∧w'=w:=by
 refine callsDIn_of_wpSIn func45 F trivial fun QR cs hu=>?_
 apply wpSIn_seq
 apply wpSIn_region
 simp[wpOpsSIn,go_sem,recoverD,hu,ntmps45,Exit.thenS,Fence.wide]
 apply wpSIn_seq
 apply wpSIn_region
 simp[wpOpsSIn,go_sem,hu,Exit.thenS]
 refine wpSIn_cond (t:=false) (by simp[Act.eval,Array.replicate]) ?_
 simp only[Bool.false_eq_true,if_false]
 refine wpSIn_of_wpIn F (wpIn_skip ?_)
 cases QR
 simp_all[bodyPostS,results,Tryz.results45]
def zD:List Value:=[.int .i64 0,.int .i64 0,.slice none 0 0,.slice none 0 0]
set_option maxRecDepth 20000 in
theorem I5 (base:World) (z6 z7:Nat) (M:List Lx.Item) (w:World) (T0:TypeId) (x:Value) (hI:Inv base ([oI z6 25 zD,oI z7 27 [.int .i64 0]]++M) w):
  CallsDIn Fence.wide 0 Tryz.prog 45 #[.pointer (some ⟨z6,0,none⟩),.pointer (some ⟨z7,0,none⟩)] (.panicking [{v:=.iface T0 x,recovered:=false}]) w fun e u' w'=>
   e=.returned (.tuple #[])∧u'=.panicking [{v:=.iface T0 x,recovered:=true}]∧Inv base ([oI z6 25 zD,oI z7 27 [.int .i64 10]]++M) w':=by
 refine callsDIn_of_wpSIn func45 F trivial fun QR cs hu=>?_
 apply wpSIn_seq
 apply wpSIn_region
 simp[wpOpsSIn,go_sem,recoverD,hu,ntmps45,Exit.thenS,Fence.wide]
 apply wpSIn_seq
 apply wpSIn_region
 simp[wpOpsSIn,go_sem,Exit.thenS]
 refine wpSIn_cond (t:=true) (by simp[Act.eval,Array.replicate]) ?_
 simp only[if_true]
 refine wpSIn_of_wpIn F ?_
 refine TG.region (base:=base) (n:=7) (ds:=[]) (M:=M) (ρ:=fun t=>Array.getD _ t undef) (O:=[oI z6 25 zD,oI z7 27 [.int .i64 0]]) ?_ ⟨fun t=>rfl,by simp,F⟩ hI
 refine cY (bE (cs:=zD) gK aX (by kernel_rfl)) ?_
 refine fu F (sH (v:=.agg zD.toArray) (vs:=zD) 0 aX F F F F F F (by simp) ?_)
 refine fu F (sH (v:=.int .i64 10) (vs:=[.int .i64 10]) 1 iU F F F F F F (by simp) ?_)
 refine TG.nil fun a w' ha mh=>?_
 have hd:=ha.defers
 cases QR
 simp_all[bodyPostS,results,Tryz.results45]
 exact mh
end Go.Proofs.YtgdbfideeeegmaaGreatDoor

namespace Go.Proofs.YtgdbfideeeegmaaGreatDoor
open Go.Lx Go.RowKit _root_.Go.Proofs.Tryz
def Xr (E:Nat) (lX:Int) (G:bY→Prop) (Z:Prop) (v:Value) (O':List Lx.Item):Prop:=
 (E≠0∧v=.tuple #[.agg zD.toArray,.int .i64 (E:Int)]∧O'=[])∨(E=0∧ ¬(1≤lX∧lX≤4096)∧v=.tuple #[.agg zD.toArray,.int .i64 1]∧O'=[])∨
 (E=0∧(1≤lX∧lX≤4096)∧((∃M k,v=.tuple #[dV M k,.int .i64 0]∧O'=[dI 56 4 3 M k]∧G M)∨(v=.tuple #[.agg zD.toArray,.int .i64 10]∧O'=[]∧Z)))
abbrev RF (base:World) (M:List Lx.Item) (R:Value→List Lx.Item→Prop):Ending→World→Prop:=fun e Ks=> ∃v O',e=.returned v∧Inv base (O'++M) Ks∧R v O'
theorem By {base w:World} {M O:List Lx.Item} {tmps:Array Value} {ρ:Env} {R:Value→List Lx.Item→Prop} (ht: ∀t,tmps.getD t undef=ρ t) (hI:Inv base (O++M) w) (hr:qb Tryz.prog base Tryz.f19 ρ O R):LeavesInM Fence.wide 0 Tryz.prog Tryz.f19 tmps (RF base M R) [] .returning w:=by
 obtain⟨v,wM,wU,hR,hr⟩:=hr.ex
 exact⟨v,hr w tmps hI.left ht,v,wM,F,hI.jf wU.sw,hR⟩
theorem YX (z6 z7:Nat) (w:World):(invoke (.fn (.func 45) #[.pointer (some ⟨z6,0,none⟩),.pointer (some ⟨z7,0,none⟩)]) #[]).run Tryz.prog w=.ok (.enter 45 #[.pointer (some ⟨z6,0,none⟩),.pointer (some ⟨z7,0,none⟩)]) w:=by
 have rz: ¬Tryz.f45.name= "runtime.NumGoroutine" :=by simpa using I1.2.1
 obtain⟨bd,Kx⟩:=Option.isSome_iff_exists.1 I1.2.2
 simp[invoke,callFunc,I1.1,rz,Kx]
theorem UV (base:World) [cG Tryz.prog base] (eb:Option Addr) (en ec:Nat) (vars:Int) (E:Nat) (lX:Int) (G:bY→Prop) (Z:Prop)
  (Xs: ∀w1 [cG Tryz.prog w1],Inv base [] w1→bs Tryz.prog 28 [.slice eb en ec,.int .i64 vars] w1 fun v N=>v=.int .i64 (E:Int)∧N=[])
  (hC:E=0→1≤lX→lX≤4096→ ∀(w8:World) [cG Tryz.prog w8] (cb:Nat),Inv base [] w8→Sl w8 (some ⟨cb,0,none⟩) [.slice eb en ec,.int .i64 vars,.int .i64 lX]→dq Tryz.prog w8 (.iface 163 (.agg #[])) 46 [du (some ⟨cb,0,none⟩) 0] [] (fun v N=> ∃M k',v=dV M k'∧N=[dI 56 4 3 M k']∧G M) Z):
  bw Tryz.prog base 19 [.slice eb en ec,.int .i64 vars,.int .i64 lX] [] (Xr E lX G Z):=by
 intro w M hI
 rw[←callsIn_wide (n:=0)]
 refine callsIn_of_wp_marks func19 F trivial ?_
 have ha:Ag 32 [] {tmps:=([.slice eb en ec,.int .i64 vars,.int .i64 lX]:List Value).toArray++Array.replicate (Tryz.f19.ntmps-([.slice eb en ec,.int .i64 vars,.int .i64 lX]:List Value).toArray.size) undef,defers:=[]} (entry [.slice eb en ec,.int .i64 vars,.int .i64 lX]):=by
  rw[ntmps19]
  refine⟨fun t=>?_,by simp,F⟩
  show(_++_:Array Value).getD t undef=List.getD _ t undef
  rw[Array.getD_eq_getD_getElem?,List.getD_eq_getElem?_getD]
  by_cases h:t<3
  ·rw[Array.getElem?_append_left (by simpa using h)];simp
  ·rw[Array.getElem?_append_right (by simpa using h),Array.getElem?_replicate,List.getElem?_eq_none (by simpa using h)]
   split<;>rfl
 refine wpIn_seq ?_
 refine TG.region (O:=[]) ?_ ha hI
 refine fu F (aR aX F (fun z6=>?_))
 refine fu F (aR iU F (fun z7=>?_))
 refine TG.nil fun a w ha hI=>?_
 refine wpIn_seq ?_
 refine wpIn_seq ?_
 refine TG.region ?_ ha hI
 refine cY (aF F) (cY (aF F) ?_)
 refine fu F (aI UG (aE (fun w1 hI=>(haveI:=dp hI;Xs w1 hI.lY))) F ?_)
 rintro vr O' ⟨N,rfl,rfl,rfl⟩
 refine cY (cD F) ?_
 refine TG.nil fun a w ha hI=>?_
 refine wpIn_seq ?_
 refine TG.region ?_ ha hI
 refine cY (aF F) (cY (cS F F) ?_)
 refine TG.nil fun a w ha hI=>?_
 by_cases hE:E=0
 case neg=>
  refine wpIn_cond (t:=true) (by rw[ha.eval];show Value.bool (decide ((E:Int)≠0))=Value.bool true;rw[decide_eq_true (show(E:Int)≠0 by omega)]) ?_
  simp only[if_true]
  refine wpIn_seq ?_
  refine TG.region ?_ ha hI
  refine cY (bE (cs:=zD) gK aX (by kernel_rfl)) (cY (aF F) ?_)
  refine fu F (sH (v:=.agg zD.toArray) (vs:=zD) 1 aX F F F F F F (by decide) ?_)
  refine fu F (sH (v:=.int .i64 (E:Int)) (vs:=[.int .i64 (E:Int)]) 0 iU F F F F F F (by simp) ?_)
  refine TG.nil fun a w ha hI=>wpIn_ret ?_
  show LeavesInM _ _ _ _ _ _ a.defers _ w
  rw[ha.defers]
  refine By ha.tmp hI (ao ?_)
  refine jD (i:=1) (j:=0) Tryz.results19 cy F aX oR F F F F F F ?_
  exact⟨[],Sub.z,.inl ⟨hE,F,F⟩⟩
 subst hE
 refine wpIn_cond (t:=false) (by rw[ha.eval];rfl) ?_
 simp only[Bool.false_eq_true,if_false]
 refine wpIn_skip ?_
 refine wpIn_seq ?_
 refine wpIn_seq ?_
 refine TG.region (base:=base) (n:=32) (ds:=[]) (M:=M) (ρ:=fun t=>a.tmps.getD t undef) (O:=[da z7 (.cells #[.int .i64 0] 27 (0,0)),da z6 (.cells #[.int .i64 0,.int .i64 0,.slice none 0 0,.slice none 0 0] 25 (0,0))]) ?_ ⟨fun t=>rfl,ha.size,ha.defers⟩ hI
 have h2:a.tmps.getD 2 undef=.int .i64 lX:=by rw[ha.tmp];rfl
 have h0:a.tmps.getD 0 undef=.slice eb en ec:=by rw[ha.tmp];rfl
 have h1:a.tmps.getD 1 undef=.int .i64 vars:=by rw[ha.tmp];rfl
 have h6:a.tmps.getD 6 undef=.pointer (some ⟨z6,0,none⟩):=by rw[ha.tmp];rfl
 have h7:a.tmps.getD 7 undef=.pointer (some ⟨z7,0,none⟩):=by rw[ha.tmp];rfl
 generalize Rl:(fun t=>a.tmps.getD t undef)=ρ
 have r2:ρ 2=.int .i64 lX:=by rw[←Rl];exact h2
 have r0:ρ 0=.slice eb en ec:=by rw[←Rl];exact h0
 have r1:ρ 1=.int .i64 vars:=by rw[←Rl];exact h1
 have r6:ρ 6=.pointer (some ⟨z6,0,none⟩):=by rw[←Rl];exact h6
 have r7:ρ 7=.pointer (some ⟨z7,0,none⟩):=by rw[←Rl];exact h7
 clear h2 h0 h1 h6 h7 Rl
 by_cases Ae:lX<1
 ·refine cY (aF F) (cY (a8 (bI (a:=lX) (b:=1) r2 F) (v':=.bool true) (by rw[decide_eq_true Ae])) (cY (aF F) ?_))
  refine tP F F (tP F F (cY (bt F F) ?_))
  refine TG.nil fun a w ha hI=>?_
  refine wpIn_cond (t:=true) (by rw[ha.eval];rfl) ?_
  simp only[if_true]
  refine wpIn_seq ?_
  refine TG.region ?_ ha hI
  refine cY (bE (cs:=zD) gK aX (by kernel_rfl)) ?_
  refine fu F (sH (v:=.agg zD.toArray) (vs:=zD) 1 aX r6 F F F F F (by decide) ?_)
  refine fu F (sH (v:=.int .i64 1) (vs:=[.int .i64 1]) 0 iU r7 F F F F F (by decide) ?_)
  refine TG.nil fun a w ha hI=>wpIn_ret ?_
  show LeavesInM _ _ _ _ _ _ a.defers _ w
  rw[ha.defers]
  refine By ha.tmp hI (ao ?_)
  refine jD (i:=1) (j:=0) Tryz.results19 cy F aX oR F r6 r7 F F F ?_
  exact⟨[],Sub.z,.inr (.inl ⟨F,by omega,F,F⟩)⟩
 ·refine cY (aF F) (cY (a8 (bI (a:=lX) (b:=1) r2 F) (v':=.bool false) (by rw[decide_eq_false Ae])) (cY (aF F) ?_))
  by_cases Fp:4096<lX
  ·refine lh F F F (dG F F (aF F) ?_)
   refine lh F F F (dG F F (a8 (fw (a:=lX) (b:=4096) r2 F) (v':=.bool true) (by rw[decide_eq_true Fp])) ?_)
   refine cY (aZ F F) ?_
   refine TG.nil fun a w ha hI=>?_
   refine wpIn_cond (t:=true) (by rw[ha.eval];rfl) ?_
   simp only[if_true]
   refine wpIn_seq ?_
   refine TG.region ?_ ha hI
   refine cY (bE (cs:=zD) gK aX (by kernel_rfl)) ?_
   refine fu F (sH (v:=.agg zD.toArray) (vs:=zD) 1 aX r6 F F F F F (by decide) ?_)
   refine fu F (sH (v:=.int .i64 1) (vs:=[.int .i64 1]) 0 iU r7 F F F F F (by decide) ?_)
   refine TG.nil fun a w ha hI=>wpIn_ret ?_
   show LeavesInM _ _ _ _ _ _ a.defers _ w
   rw[ha.defers]
   refine By ha.tmp hI (ao ?_)
   refine jD (i:=1) (j:=0) Tryz.results19 cy F aX oR F r6 r7 F F F ?_
   exact⟨[],Sub.z,.inr (.inl ⟨F,by omega,F,F⟩)⟩
  refine lh F F F (dG F F (aF F) ?_)
  refine lh F F F (dG F F (a8 (fw (a:=lX) (b:=4096) r2 F) (v':=.bool false) (by rw[decide_eq_false Fp])) ?_)
  refine cY (aZ F F) ?_
  refine TG.nil fun a w ha hI=>?_
  refine wpIn_cond (t:=false) (by rw[ha.eval];rfl) ?_
  simp only[Bool.false_eq_true,if_false]
  refine wpIn_skip ?_
  refine wpIn_seq ?_
  refine TG.region ?_ ha hI
  refine cY (a8 dX (v':=.func (.func 45) #[] #[.pointer (some ⟨z6,0,none⟩),.pointer (some ⟨z7,0,none⟩)]) (by show Value.func _ #[] #[ρ 6,ρ 7]=_;rw[r6,r7])) ?_
  refine TG.defer (f:=45) (fK:= #[.pointer (some ⟨z6,0,none⟩),.pointer (some ⟨z7,0,none⟩)]) F ?_
  refine TG.nil fun a w ha hI=>?_
  refine wpIn_seq ?_
  refine TG.region ?_ ha hI
  refine cY (a8 (aF F) (v':=.slice eb en ec) r0) (cY (a8 (aF F) (v':=.int .i64 vars) r1) (cY (a8 (aF F) (v':=.int .i64 lX) r2) ?_))
  refine cY (bE (cs:=[.slice eb en ec,.int .i64 vars,.int .i64 lX]) Qq UC (by kernel_rfl)) ?_
  refine fu F (cL (v:=.agg #[.slice eb en ec,.int .i64 vars,.int .i64 lX]) (cs:=[.slice eb en ec,.int .i64 vars,.int .i64 lX]) F F (fun zc=>?_))
  refine cY (cD F) ?_
  refine TG.nil fun a w ha hI=>?_
  refine wpIn_seq ?_
  refine TG.region ?_ ha hI
  refine cY (aF F) ?_
  refine Dk (tm:=.iface 163 (.agg #[])) UJ (vs:=[du (some ⟨zc,0,none⟩) 0]) (R:=fun v N=> ∃M k',v=dV M k'∧N=[dI 56 4 3 M k']∧G M) (Z:=Z) (fun w hI=>(haveI:=dp hI;hC F (by omega) (by omega) w zc hI.lY (hI.iX (mG 0 F)))) F (fun a w ha hI hZ=>?_) ?_
  ·show LeavesInM _ _ _ _ _ _ a.defers _ w
   rw[ha.defers]
   refine⟨by simp,.inr ⟨fun h=>by simp[Fence.wide]at h,_,_,45,_,F,YX z6 z7 w,fun _ _=>trivial,?_⟩⟩
   refine(I5 base z6 z7 M w 163 (.agg #[]) (hI.jf (Sub.sw (au [2,1] F)))).mono ?_
   rintro e u' w' ⟨rfl,rfl,mh⟩
   refine By ha.tmp mh (ao ?_)
   refine jD (i:=0) (j:=1) Tryz.results19 cy F aX oR F r6 r7 F F F ?_
   exact⟨[],Sub.z,.inr (.inr ⟨F,by omega,.inr ⟨F,F,hZ⟩⟩)⟩
  rintro v N ⟨Md,kd,rfl,rfl,hG⟩
  refine fu F (sH (v:=dV Md kd) (vs:=dC Md kd) 3 aX r6 F F F F F (show 0+4≤4 by decide) ?_)
  refine fu F (sH (v:=.int .i64 0) (vs:=[.int .i64 0]) 2 iU r7 F F F F F (by decide) ?_)
  refine TG.nil fun a w ha hI=>wpIn_ret ?_
  show LeavesInM _ _ _ _ _ _ a.defers _ w
  rw[ha.defers]
  refine⟨by simp,.inr ⟨fun h=>by simp[Fence.wide]at h,_,_,45,_,F,YX z6 z7 w,fun _ _=>trivial,?_⟩⟩
  refine(LW w _ _).mono ?_
  rintro e u' w' ⟨rfl,rfl,rfl⟩
  refine By ha.tmp hI (ao ?_)
  refine jD (i:=3) (j:=2) Tryz.results19 cy F aX oR F r6 r7 F F F ?_
  exact⟨[dI 56 4 3 Md kd],au [0] F,.inr (.inr ⟨F,by omega,.inl ⟨Md,kd,F,F,hG⟩⟩)⟩
end Go.Proofs.YtgdbfideeeegmaaGreatDoor

namespace Go.Lx
open Go.RowKit Go.Proofs.YtgdbfideeeegmaaGreatDoor
def jx (e:List dE):Nat→Nat→Rx
 |0,_=>.none
 |f+1,i=>
  let x:=e.getD i ⟨0,0,0,0,0⟩
  if x.op=1 then .none else if x.op=2 then .empty else if x.op=3 then .letter x.p x.n
  else if x.op=4 then .kQ (jx e f x.a.toNat) (jx e f x.b.toNat)else if x.op=5 then .uE (jx e f x.a.toNat) (jx e f x.b.toNat)else if x.op=6 then .and (jx e f x.a.toNat) (jx e f x.b.toNat)
  else if x.op=7 then .not (jx e f x.a.toNat)else if x.op=8 then .star (jx e f x.a.toNat)else if x.op=9 then .ahead (jx e f x.a.toNat)else .behind (jx e f x.a.toNat)
theorem rT {v:Nat} {e:List dE} {fs:List Nat} (h:iV v e=.ok fs) {i:Nat} (hi:i<e.length):gi v e[i]=0:=by
 obtain⟨gs,h1,h2,h3,_⟩:=nH h i (Nat.le_of_lt hi)
 cases hs:fW v gs e[i]with
 |error n=>rw[iF hi h1 hs]at h;cases h
 |ok b=>exact(si (by rw[h2];exact h3) hs).2.1
theorem or_zero {a b:Nat} (h:(a|||b)=0):a=0∧b=0:=by
 have h1:a≤a|||b:=Nat.left_le_or
 have h2:b≤a|||b:=Nat.right_le_or
 omega
theorem lm {v:Nat} {x:dE} (h:gi v x=0):1≤x.op∧x.op≤10∧(x.op≠3→x.p=0∧x.n=0)∧(cT x.op<1→x.a=0)∧(cT x.op<2→x.b=0):=by
 unfold gi at h
 split at h
 ·omega
 ·rename_i h1
  split at h
  ·omega
  ·rename_i h2
   refine⟨by omega,by omega,fun h3=>or_zero (by
    by_cases h4:(x.p|||x.n)=0
    ·exact h4
    ·exact absurd (Or.inl ⟨h3,h4⟩) h2),fun h3=>?_,fun h3=>?_⟩
   ·by_cases h4:x.a=0
    ·exact h4
    ·exact absurd (Or.inr (Or.inl ⟨h3,h4⟩)) h2
   ·by_cases h4:x.b=0
    ·exact h4
    ·exact absurd (Or.inr (Or.inr ⟨h3,h4⟩)) h2
theorem jM {v:Nat} {e:List dE} {fs:List Nat} (h:iV v e=.ok fs) (qK: ∀x∈e,x.p<256∧x.n<256): ∀(f i:Nat),i<f→i<e.length→B_ e (jx e f i) i
 |0,i,hf,hi=>absurd hf (by omega)
 |f+1,i,hf,hi=>by
  have ht:=oV h i hi
  have hs:=lm (rT h hi)
  have hg:e[i]? =some e[i]:=List.getElem?_eq_getElem hi
  have hx:=qK _ (List.getElem_mem hi)
  unfold jx
  simp only[pk hi]
  obtain⟨x,wX⟩: ∃x,x=e[i]:=⟨_,F⟩
  rw[←wX]at ht hs hg hx⊢
  obtain⟨o,p,n,a,b⟩:=x
  clear wX
  obtain⟨h1,h2,h3,h4,h5⟩:=hs
  simp only at ht h1 h2 h3 h4 h5 hx
  have hk:o=1∨o=2∨o=3∨o=4∨o=5∨o=6∨o=7∨o=8∨o=9∨o=10:=by omega
  rcases hk with rfl|rfl|rfl|rfl|rfl|rfl|rfl|rfl|rfl|rfl
  ·obtain⟨rfl,rfl⟩:=h3 (by decide)
   have ha:=h4 (by decide);have hb:=h5 (by decide)
   subst ha hb
   exact hg
  ·obtain⟨rfl,rfl⟩:=h3 (by decide)
   have ha:=h4 (by decide);have hb:=h5 (by decide)
   subst ha hb
   exact hg
  ·have ha:=h4 (by decide);have hb:=h5 (by decide)
   subst ha hb
   exact⟨hg,hx⟩
  ·obtain⟨rfl,rfl⟩:=h3 (by decide)
   obtain⟨j,rfl,hj⟩:=ht.1 (by decide)
   obtain⟨k,rfl,hk⟩:=ht.2 (by decide)
   exact⟨j,k,hg,jM h qK f j (by omega) (by omega),jM h qK f k (by omega) (by omega)⟩
  ·obtain⟨rfl,rfl⟩:=h3 (by decide)
   obtain⟨j,rfl,hj⟩:=ht.1 (by decide)
   obtain⟨k,rfl,hk⟩:=ht.2 (by decide)
   exact⟨j,k,hg,jM h qK f j (by omega) (by omega),jM h qK f k (by omega) (by omega)⟩
  ·obtain⟨rfl,rfl⟩:=h3 (by decide)
   obtain⟨j,rfl,hj⟩:=ht.1 (by decide)
   obtain⟨k,rfl,hk⟩:=ht.2 (by decide)
   exact⟨j,k,hg,jM h qK f j (by omega) (by omega),jM h qK f k (by omega) (by omega)⟩
  ·obtain⟨rfl,rfl⟩:=h3 (by decide)
   have hb:=h5 (by decide)
   subst hb
   obtain⟨j,rfl,hj⟩:=ht.1 (by decide)
   exact⟨j,hg,jM h qK f j (by omega) (by omega)⟩
  ·obtain⟨rfl,rfl⟩:=h3 (by decide)
   have hb:=h5 (by decide)
   subst hb
   obtain⟨j,rfl,hj⟩:=ht.1 (by decide)
   exact⟨j,hg,jM h qK f j (by omega) (by omega)⟩
  ·obtain⟨rfl,rfl⟩:=h3 (by decide)
   have hb:=h5 (by decide)
   subst hb
   obtain⟨j,rfl,hj⟩:=ht.1 (by decide)
   exact⟨j,hg,jM h qK f j (by omega) (by omega)⟩
  ·obtain⟨rfl,rfl⟩:=h3 (by decide)
   have hb:=h5 (by decide)
   subst hb
   obtain⟨j,rfl,hj⟩:=ht.1 (by decide)
   exact⟨j,hg,jM h qK f j (by omega) (by omega)⟩
theorem zk {v:Nat} {e:List dE} {fs:List Nat} (h:iV v e=.ok fs): ∀(f i:Nat),i<f→i<e.length→(lH e f i false=true→(jx e f i).plain=true)∧(lH e f i true=true→(jx e f i).wf=true)
 |0,i,hf,hi=>absurd hf (by omega)
 |f+1,i,hf,hi=>by
  have ht:=oV h i hi
  have hs:=lm (rT h hi)
  have e1:=ld (f:=f) (fr:=false) hi
  have e2:=ld (f:=f) (fr:=true) hi
  rw[e1,e2]
  unfold jx
  simp only[pk hi]
  clear e1 e2
  obtain⟨x,wX⟩: ∃x,x=e[i]:=⟨_,F⟩
  rw[←wX]at ht hs⊢
  obtain⟨o,p,n,a,b⟩:=x
  clear wX
  obtain⟨h1,h2,h3,h4,h5⟩:=hs
  simp only at ht h1 h2⊢
  clear h3 h4 h5
  have one:1≤cT o→((lH e f a.toNat false=true→(jx e f a.toNat).plain=true)∧(lH e f a.toNat true=true→(jx e f a.toNat).wf=true)):=fun hh=>by
   obtain⟨j,rfl,hj⟩:=ht.1 hh
   exact zk h f j (by omega) (by omega)
  have two:2≤cT o→((lH e f b.toNat false=true→(jx e f b.toNat).plain=true)∧(lH e f b.toNat true=true→(jx e f b.toNat).wf=true)):=fun hh=>by
   obtain⟨j,rfl,hj⟩:=ht.2 hh
   exact zk h f j (by omega) (by omega)
  clear ht
  have hk:o=1∨o=2∨o=3∨o=4∨o=5∨o=6∨o=7∨o=8∨o=9∨o=10:=by omega
  rcases hk with rfl|rfl|rfl|rfl|rfl|rfl|rfl|rfl|rfl|rfl<;>simp[cT,Rx.plain,Rx.wf]at one two⊢ <;>simp_all
theorem DZ {v:Nat} {e:List dE} {fs:List Nat} (h:iV v e=.ok fs) {i:Nat} (hi:i<e.length):fs.getD i 0≤i∧
  (cT e[i].op=1→0<i∧e[i].a=(i:Int)-1∧fs.getD i 0=fs.getD (i-1) 0)∧
  (cT e[i].op=2→0<i∧e[i].b=(i:Int)-1∧0<fs.getD (i-1) 0∧e[i].a=(fs.getD (i-1) 0:Int)-1∧fs.getD (i-1) 0≤i-1∧fs.getD i 0=fs.getD e[i].a.toNat 0)∧(cT e[i].op=0→fs.getD i 0=i):=by
 obtain⟨gs,h1,h2,h3,h4⟩:=nH h i (Nat.le_of_lt hi)
 obtain⟨gs',k1,k2,k3,k4⟩:=nH h (i+1) hi
 cases hs:fW v gs e[i]with
 |error n=>rw[iF hi h1 hs]at h;cases h
 |ok b=>
  have hn:=pj hi h1 hs
  rw[k1]at hn
  injection hn with hn
  have ie:i<fs.length:=by
   have:(fs.take (i+1)).length=i+1:=by rw[←k4];exact k2
   rw[List.length_take]at this;omega
  have hb:fs.getD i 0=b:=by
   have:gs'.getD i 0=b:=by rw[hn,List.getD_eq_getElem?_getD,List.getElem?_append_right (by omega),h2,Nat.sub_self];rfl
   rw[k4,List.getD_eq_getElem?_getD,List.getElem?_take,if_pos (by omega)]at this
   rw[List.getD_eq_getElem?_getD];exact this
  have hj: ∀j,j<i→gs.getD j 0=fs.getD j 0:=fun j hj=>by
   rw[h4,List.getD_eq_getElem?_getD,List.getD_eq_getElem?_getD,List.getElem?_take,if_pos hj]
  obtain⟨b1,_,b2,b3,b4⟩:=si (by rw[h2];exact h3) hs
  rw[h2]at b1 b2 b3 b4
  refine⟨by omega,fun h5=>?_,fun h5=>?_,fun h5=>by rw[hb];exact b4 h5⟩
  ·obtain⟨c1,c2,c3⟩:=b2 h5
   exact⟨c1,c2,by rw[hb,c3,hj _ (by omega)]⟩
  ·obtain⟨c1,c2,c3,c4,c5⟩:=b3 h5
   have hx:=h3 (i-1) (by omega)
   rw[hj _ (by omega)]at c3 c4 hx
   refine⟨c1,c2,c3,c4,hx,?_⟩
   rw[hb,c5,hj _ (by omega)]
theorem zl {v:Nat} {e:List dE} {fs:List Nat} (h:iV v e=.ok fs): ∀(f i:Nat),i<f→i<e.length→2*(jx e f i).lv+fs.getD i 0≤i+2
 |0,i,hf,hi=>absurd hf (by omega)
 |f+1,i,hf,hi=>by
  obtain⟨g0,g1,g2,g3⟩:=DZ h hi
  unfold jx
  simp only[pk hi]
  by_cases h4:e[i].op=4∨e[i].op=5
  ·have hc:cT e[i].op=2:=by unfold cT;rw[if_pos (by omega)]
   obtain⟨c1,c2,c3,c4,c5,c6⟩:=g2 hc
   have ha:=zl h f (fs.getD (i-1) 0-1) (by omega) (by omega)
   have hb:=zl h f (i-1) (by omega) (by omega)
   have ea:e[i].a.toNat=fs.getD (i-1) 0-1:=by omega
   have eb:e[i].b.toNat=i-1:=by omega
   rw[ea]at c6
   rw[ea,eb]
   rcases h4 with h4|h4
   ·simp only[h4]
    show 2*((jx e f _).lv+(jx e f _).lv)+_≤_
    omega
   ·simp only[h4]
    show 2*((jx e f _).lv+(jx e f _).lv)+_≤_
    omega
  ·rw[if_neg (show¬e[i].op=4 by omega),if_neg (show¬e[i].op=5 by omega)]
   repeat' split
   all_goals (show 2*1+_≤_;omega)
theorem qU {v:Nat} {e:List dE} {fs:List Nat} (h:iV v e=.ok fs) (hl: ∀x∈e,x.op≠9∧x.op≠10): ∀(f i:Nat),i<f→i<e.length→(jx e f i).plain=true
 |0,i,hf,hi=>absurd hf (by omega)
 |f+1,i,hf,hi=>by
  have ht:=oV h i hi
  have hs:=lm (rT h hi)
  have hx:=hl _ (List.getElem_mem hi)
  unfold jx
  simp only[pk hi]
  obtain⟨x,wX⟩: ∃x,x=e[i]:=⟨_,F⟩
  rw[←wX]at ht hs hx⊢
  obtain⟨o,p,n,a,b⟩:=x
  clear wX
  obtain⟨h1,h2,h3,h4,h5⟩:=hs
  simp only at ht h1 h2 hx⊢
  clear h3 h4 h5
  have one:1≤cT o→(jx e f a.toNat).plain=true:=fun hh=>by
   obtain⟨j,rfl,hj⟩:=ht.1 hh
   exact qU h hl f j (by omega) (by omega)
  have two:2≤cT o→(jx e f b.toNat).plain=true:=fun hh=>by
   obtain⟨j,rfl,hj⟩:=ht.2 hh
   exact qU h hl f j (by omega) (by omega)
  clear ht
  have hk:o=1∨o=2∨o=3∨o=4∨o=5∨o=6∨o=7∨o=8:=by omega
  rcases hk with rfl|rfl|rfl|rfl|rfl|rfl|rfl|rfl<;>simp[cT,Rx.plain]at one two⊢ <;>simp_all
end Go.Lx

namespace Go.Lx
open Go.RowKit
theorem jt {v B:Nat} {M:bY} {p:Lg} (h:fm (v:Int) B M p) (hB:B≤4096):fm (v:Int) B (minOf v p) p:=by rw[←jI h hB];exact h
theorem zm {v:Nat} {a:bY} (h:a.vars=(v:Int)):cJ a=2^v:=by unfold cJ;rw[h];rfl
theorem uC {v B:Nat} (hv:v≤6) (hB:B≤4096) {a b:bY} {p q:Lg} {n m:Nat} (ha:HasL (v:Int) n a p) (hb:HasL (v:Int) m b q) (h:yX a b (cJ a) B):fm (v:Int) B (minOf v (nI p q)) (nI p q):=by
 rw[show yX a b (cJ a) B=yX a b (2^v) B by rw[zm ha.vars]]at h
 obtain⟨M,hM⟩:=Ey (fin:=FM (GC a b) xW (Pn b)) hv hB h
 refine jt (M:=M) (hM.to fun u hu=>?_) hB
 rw[Bd ha.valid hb.valid (by rw[ha.vars,hb.vars]) (fun x hx=>by rw[zm ha.vars];simpa using hu x hx)]
 exact qQ (fun w hw=>ha.h_ w hw) (fun w hw=>hb.h_ w hw) hu
theorem I7 {v B:Nat} (hv:v≤6) (hB:B≤4096) {a:bY} {p:Lg} {n:Nat} (ha:HasL (v:Int) n a p) (h:CX a (cJ a) B):fm (v:Int) B (minOf v (rV p)) (rV p):=by
 rw[show CX a (cJ a) B=CX a (2^v) B by rw[zm ha.vars]]at h
 obtain⟨M,hM⟩:=Ey (fin:=FM (GS a) zJ (LA a)) hv hB h
 refine jt (M:=M) (hM.to fun u hu=>?_) hB
 rw[xX ha.valid (fun x hx=>by rw[zm ha.vars];simpa using hu x hx)]
 exact tI (fun w hw=>ha.h_ w hw) hu
theorem gl {v B:Nat} (hv:v≤6) (hB:B≤4096): ∀ {t:Rx},t.plain=true→mx v t B→fm (v:Int) B (minOf v (jz t)) (jz t)
 | .none,_,h=>jt (QD hv h) hB
 | .empty,_,h=>by
  have h1:=(uA (gM 0 0) hv (Nat.zero_le 1)).rn
  exact jt (M:=fY (CZ v 0 (gM 0 0))) ⟨h1.toHasL.le h,h1.min⟩ hB
 | .letter p n,_,h=>by
  have h1:=(uA (gM p n) hv (Nat.le_refl 1)).rn
  exact jt (M:=fY (CZ v 1 (gM p n))) ⟨h1.toHasL.le h,h1.min⟩ hB
 | .kQ a b,hp,h=>by
  simp only[Rx.plain,Bool.and_eq_true]at hp
  exact uC hv hB (gl hv hB hp.1 h.1).toHasL (gl hv hB hp.2 h.2.1).toHasL h.2.2
 | .uE a b,hp,h=>by
  simp only[Rx.plain,Bool.and_eq_true]at hp
  exact jt (YZ (gl hv hB hp.1 h.1) (gl hv hB hp.2 h.2.1) h.2.2.1 h.2.2.2) hB
 | .and a b,hp,h=>by
  simp only[Rx.plain,Bool.and_eq_true]at hp
  exact jt (YZ (gl hv hB hp.1 h.1) (gl hv hB hp.2 h.2.1) h.2.2.1 h.2.2.2) hB
 | .not a,hp,h=>jt (notM (gl hv hB (t:=a) hp h.1).toHasL h.2) hB
 | .star a,hp,h=>I7 hv hB (gl hv hB (t:=a) hp h.1).toHasL h.2
 | .ahead a,hp,h=>absurd hp (by simp[Rx.plain])
 | .behind a,hp,h=>absurd hp (by simp[Rx.plain])
theorem I8 {v B:Nat} (hv:v≤6) (hB:B≤4096): ∀ {t:Rx},t.wf=true→okB v t B→(∀a b,t≠.kQ a b)→(∀a b,t≠.uE a b)→ ∃p,fm (v:Int) B (tQ v t).d p
 | .none,hw,h,_,_=>⟨_,gl hv hB (t:=.none) hw h⟩
 | .empty,hw,h,_,_=>⟨_,gl hv hB (t:=.empty) hw h⟩
 | .letter p n,hw,h,_,_=>⟨_,gl hv hB (t:=.letter p n) hw h⟩
 | .and a b,hw,h,_,_=>⟨_,gl hv hB (t:=.and a b) hw h⟩
 | .not a,hw,h,_,_=>⟨_,gl hv hB (t:=.not a) hw h⟩
 | .star a,hw,h,_,_=>⟨_,gl hv hB (t:=.star a) hw h⟩
 | .kQ a b,_,_,h,_=>absurd F (h a b)
 | .uE a b,_,_,_,h=>absurd F (h a b)
 | .ahead a,hw,h,_,_=>⟨_,uC hv hB (gl hv hB (t:=a) hw h.1).toHasL (iL hv) h.2⟩
 | .behind a,hw,h,_,_=>⟨_,uC hv hB (iL hv) (gl hv hB (t:=a) hw h.1).toHasL h.2⟩
def tR (v B:Nat) (l:Lf):Prop:=(∃p,fm (v:Int) B l.d p)∧(l.op=0∨l.op=9∨l.op=10)
def I9 (ls:List Lf):Prop:= ∀k,k<ls.length→ ∀j∈(lf ls k).fo,k<j∧j<ls.length
theorem I_ {ls:List Lf} {k i:Nat} {q:Lf} (hk:k<ls.length):lf (ls.set k q) i=if i=k then q else lf ls i:=by
 unfold lf
 rw[List.getD_eq_getElem?_getD,List.getD_eq_getElem?_getD]
 by_cases e:i=k
 ·subst e;rw[List.getElem?_set_self hk,if_pos F];rfl
 ·rw[List.getElem?_set_ne (fun h=>e h.symm),if_neg e]
theorem Ez {v B:Nat}: ∀(b x:List Nat) (ls:List Lf),(∀l∈ls,tR v B l)→I9 ls→(∀k∈b,k<ls.length∧ ∀j∈x,k<j∧j<ls.length)→(∀l∈lU ls b x,tR v B l)∧I9 (lU ls b x)
 | [],x,ls,h1,h2,_=>⟨h1,h2⟩
 |k::b,x,ls,h1,h2,h3=>by
  obtain⟨hk,hj⟩:=h3 k (by simp)
  refine Ez b x (ls.set k {lf ls k with fo:=(lf ls k).fo++x}) (fun l hl=>?_) (fun i hi j qB=>?_) (fun k2 l7=>?_)
  ·rcases List.mem_or_eq_of_mem_set hl with hl|rfl
   ·exact h1 l hl
   ·have h9:=h1 _ (jj hk);exact⟨h9.1,h9.2⟩
  ·rw[List.length_set]at hi⊢
   rw[I_ hk]at qB
   split at qB
   ·rename_i e
    subst e
    rcases List.mem_append.1 qB with h|h
    ·exact h2 i hk j h
    ·exact hj j h
   ·exact h2 i hi j qB
  ·rw[List.length_set];exact h3 k2 (by simp[l7])
theorem I9.snoc {ls:List Lf} {q:Lf} (h:I9 ls) (hq:q.fo=[]):I9 (ls++[q]):=fun k hk j hj=>by
 rw[List.length_append,List.length_singleton]at hk⊢
 unfold lf at hj
 rw[List.getD_eq_getElem?_getD]at hj
 by_cases e:k<ls.length
 ·rw[List.getElem?_append_left e]at hj
  have:=h k e j (by unfold lf;rw[List.getD_eq_getElem?_getD];exact hj)
  omega
 ·rw[List.getElem?_append_right (by omega),show k-ls.length=0 by omega]at hj
  simp[hq]at hj
theorem Ja {v B:Nat} (hv:v≤6) (hB:B≤4096): ∀(t:Rx) (ls:List Lf),t.wf=true→okB v t B→(∀l∈ls,tR v B l)→I9 ls→(∀l∈(aK v t ls).ls,tR v B l)∧I9 (aK v t ls).ls:=by
 have leaf: ∀(t:Rx) (ls:List Lf),t.wf=true→okB v t B→(∀a b,t≠.kQ a b)→(∀a b,t≠.uE a b)→(tQ v t).fo=[]→((tQ v t).op=0∨(tQ v t).op=9∨(tQ v t).op=10)→(∀l∈ls,tR v B l)→I9 ls→(∀l∈ls++[tQ v t],tR v B l)∧I9 (ls++[tQ v t]):=fun t ls hw ho n1 n2 hf IE h1 h2=>by
  refine⟨fun l hl=>?_,h2.snoc hf⟩
  rcases List.mem_append.1 hl with hl|hl
  ·exact h1 l hl
  ·rw[List.mem_singleton.1 hl];exact⟨I8 hv hB hw ho n1 n2,IE⟩
 intro t
 induction t with
 |kQ a b QB QC=>
  intro ls hw ho h1 h2
  simp only[Rx.wf,Bool.and_eq_true]at hw
  obtain⟨a1,a2⟩:=QB ls hw.1 ho.1 h1 h2
  obtain⟨b1,b2⟩:=QC _ hw.2 ho.2 a1 a2
  refine Ez _ _ _ b1 b2 fun k hk=>?_
  have k1:=(fN v a ls).2.1 k hk
  have uw:=eI v a ls
  have KC:=eI v b (aK v a ls).ls
  refine⟨by omega,fun j hj=>?_⟩
  have k2:=(fN v b (aK v a ls).ls).1 j hj
  omega
 |uE a b QB QC=>
  intro ls hw ho h1 h2
  simp only[Rx.wf,Bool.and_eq_true]at hw
  obtain⟨a1,a2⟩:=QB ls hw.1 ho.1 h1 h2
  exact QC _ hw.2 ho.2 a1 a2
 |none=>exact fun ls hw ho=>leaf .none ls hw ho (by simp) (by simp) F (.inl F)
 |empty=>exact fun ls hw ho=>leaf .empty ls hw ho (by simp) (by simp) F (.inl F)
 |letter p n=>exact fun ls hw ho=>leaf (.letter p n) ls hw ho (by simp) (by simp) F (.inl F)
 |and a b _ _=>exact fun ls hw ho=>leaf (.and a b) ls hw ho (by simp) (by simp) F (.inl F)
 |not a _=>exact fun ls hw ho=>leaf (.not a) ls hw ho (by simp) (by simp) F (.inl F)
 |star a _=>exact fun ls hw ho=>leaf (.star a) ls hw ho (by simp) (by simp) F (.inl F)
 |ahead a _=>exact fun ls hw ho=>leaf (.ahead a) ls hw ho (by simp) (by simp) F (.inr (.inl F))
 |behind a _=>exact fun ls hw ho=>leaf (.behind a) ls hw ho (by simp) (by simp) F (.inr (.inr F))
theorem EA {v B:Nat}: ∀(la:List Nat) (ls:List Lf),(∀l∈ls,tR v B l∧l.fo.length≤1000000)→I9 ls→(∀k∈la,k<ls.length)→(∀l∈qi ls la,tR v B l∧l.fo.length≤1000000)∧I9 (qi ls la)
 | [],ls,h1,h2,_=>⟨h1,h2⟩
 |k::la,ls,h1,h2,h3=>by
  have hk:=h3 k (by simp)
  refine EA la (ls.set k {lf ls k with la:=true}) (fun l hl=>?_) (fun i hi j hj=>?_) (fun k2 l7=>by rw[List.length_set];exact h3 k2 (by simp[l7]))
  ·rcases List.mem_or_eq_of_mem_set hl with hl|rfl
   ·exact h1 l hl
   ·have h9:=h1 _ (jj hk);exact⟨⟨h9.1.1,h9.1.2⟩,h9.2⟩
  ·rw[List.length_set]at hi⊢
   rw[I_ hk]at hj
   split at hj
   ·rename_i e;subst e;exact h2 i hk j hj
   ·exact h2 i hi j hj
theorem HI {v B:Nat} (hv:v≤6) (hB:B≤4096) {t:Rx} (hw:t.wf=true) (Kf:t.lv≤12) (h:okB v t B):gU (mO v t) v:=by
 obtain⟨h1,h2⟩:=Ja hv hB t [] hw h (fun l hl=>by simp at hl) (fun k hk=>by simp at hk)
 have h3:=pP v t [] 0 (fun l hl=>by simp at hl)
 have h4:t.lv*t.lv≤144:=Nat.mul_le_mul Kf Kf
 obtain⟨h5,h6⟩:=EA (v:=v) (B:=B) (aK v t []).la (aK v t []).ls (fun l hl=>⟨h1 l hl,by have:=h3 l hl;omega⟩) h2 (fun k hk=>by
  have:=(fN v t []).2.1 k hk;rw[eI];exact this.2)
 refine⟨by rw[Bz];exact Kf,fun l hl=>?_,fun l hl=>?_,fun l hl=>(h5 l hl).1.2,fun k hk j hj=>h6 k hk j hj,fun l hl=>(h5 l hl).2⟩
 ·obtain⟨p,hp⟩:=(h5 l hl).1.1;exact hp.valid
 ·obtain⟨p,hp⟩:=(h5 l hl).1.1;exact hp.vars
end Go.Lx


/- Contracts of functions; conditions: those each theorem names. -/
import Derived.Test.YtgdbfideeeegmaaGreatDoorA7
set_option linter.unusedSectionVars false
set_option linter.unusedSimpArgs false
set_option linter.unusedVariables false
set_option linter.unnecessarySimpa false
set_option maxHeartbeats 8000000
set_option maxRecDepth 20000
namespace Go.Proofs.YtgdbfideeeegmaaGreatDoor
open Go.Lx Go.RowKit _root_.Go.Proofs.Tryz
theorem x6 (w:World) [dA prog w] (k:Nat) (x:eC):
  cn prog 39 [v8 k,x.ag] w (Xf 72 [] (k,[x])):=by
 refine aE func39 F ntmps39 F ?_
 refine aj (aq (dE (cs:=x.cl) (fun z1=>?_)))
 refine aq (bs dh (fun z2=>?_))
 refine ah (aj (ai F (ae (eN 1 dt cJ) (aq (cK (m:=1) (parts:=[(0,_)]) (cs:=x.cl) dR cJ (by decide) (by kernel_rfl) F (fun z3=>?_))))))
 refine ae (cT (cs:=[v8 k,(.slice (aD z3) 1 1)]) qJ dh (by kernel_rfl)) (aq (cq (vs:=[v8 k,(.slice (aD z3) 1 1)]) 1 dh ?_))
 refine ah (aM (aB ?_))
 refine cN (i:=1) results39 gh F dh F F F ?_
 exact⟨[av (aD z3) 1 72 5 x.cl],(by exact Sub.k .z),[⟨(aD z3),1,[x]⟩],⟨k,⟨(aD z3),1,[x]⟩⟩,F,F,F,.inl (.inl (List.mem_singleton.2 F))⟩
theorem mZ {s:Nat} {x:eC} (h:x.op=7∨x.op=8):eB s x=⟨x.op,x.p,x.n,x.a+s,x.b⟩:=aJ h
theorem m_ {s:Nat} {x:eC} (h:x.op=4∨x.op=5∨x.op=6):eB s x=⟨x.op,x.p,x.n,x.a+s,x.b+s⟩:=by unfold eB;rw[aA (by omega),aJ h]
theorem pO {s:Nat} {x:eC} (h: ¬(x.op=7∨x.op=8)) (h2: ¬(x.op=4∨x.op=5∨x.op=6)):eB s x=⟨x.op,x.p,x.n,x.a,x.b⟩:=by unfold eB;rw[aA h,aA h2]
theorem AB {op:Nat} {out:List eC} (h:64<out.length):Ja op out=(3,[]):=aJ h
theorem C6 {op:Nat} {out:List eC} (h: ¬64<out.length):Ja op out=(0,out):=aA h
theorem FE {op:Nat} {a:PR} (ha: ¬a.k=3) (h:64<a.r.e.length+1):qH op a.pp=(3,[]):=(aA ha).trans (AB (show 64<(a.r.e++[_]).length by simpa using h))
theorem Jb {op:Nat} {a:PR} (ha: ¬a.k=3) (h: ¬64<a.r.e.length+1):qH op a.pp=(0,a.r.e++[⟨op,0,0,(a.r.e.length:Int)-1,0⟩]):=(aA ha).trans (C6 (show¬64<(a.r.e++[_]).length by simpa using h))
theorem FF {op:Nat} {a b:PR} (ha: ¬a.k=3) (hb: ¬b.k=3) (h:64<a.r.e.length+b.r.e.length+1):oT op a.pp b.pp=(3,[]):=(aA (fun h=>h.elim ha hb)).trans (AB (show 64<(a.r.e++b.r.e.map _++[_]).length by simpa[Nat.add_assoc]using h))
theorem Jc {op:Nat} {a b:PR} (ha: ¬a.k=3) (hb: ¬b.k=3) (h: ¬64<a.r.e.length+b.r.e.length+1):oT op a.pp b.pp=(0,a.r.e++b.r.e.map (eB a.r.e.length)++[⟨op,0,0,(a.r.e.length:Int)-1,((a.r.e.length+b.r.e.length:Nat):Int)-1⟩]):=(aA (fun h=>h.elim ha hb)).trans (C6 (show¬64<(a.r.e++b.r.e.map _++[_]).length by simpa[Nat.add_assoc]using h))
theorem jF {e:List eC} {j:Nat} (h:j<e.length) (g:eC→eC):(e.take (j+1)).map g=(e.take j).map g++[g e[j]]:=by rw[aH h,bj];rfl
theorem Ua (w:World) [dA prog w] (op:Nat) (tb:Option Addr) (tc:Nat) (a:PR) (hT:Sl w tb (eL [a])) (ha:Sl w a.r.b (bQ a.r.e)) (Cw:fN a.pp):
  cn prog 68 [v8 op,(.slice tb 1 tc)] w (Xf 72 [a] (qH op a.pp)):=by
 refine aE func68 F ntmps68 F ?_
 refine aj (aq (bs dh (fun z1=>?_)))
 refine ah (aj (ak F (ah (aj (ae (tS (cs:=[(vI 0),(vI 0)]) tX bF u9 (by kernel_rfl)) (aq (bs u9 (fun z2=>?_))))))))
 refine aq (cq (vs:=[(vI 0),(vI 0)]) 0 u9 ?_)
 refine ah (aR (aj (ai F (ae (bL (cQ mr) (v':=vI 1) F) (ai F (ah (aV ?_)))))))
 refine pM 2 (T.round ?_)
 refine aj (ae (aC cU (b':=true) F) (ah (aR ?_)))
 refine b_ ?_
 refine aL (aR (aV (aj (ai F (ae (eA (i:=0) mr dh F F (aK hT) (by simp) (by rw[ik];simp)) (ae (eW (vs:=a.cells) gh F dh F F (bu _) (aK hT) (om (l:=[a]) (i:=0) (by simp))) (aq (bs dh (fun z3=>?_)))))))))
 refine ak F (aq (cq (vs:=a.cells) 0 dh ?_))
 refine ah (aR (aj (ae (bt gh oo) (ae (bq 0 u_) (ae bK (ah (aZ F (fun hc=>?_) (fun hc=>?_))))))))
 ·have tY:a.k=3:=by omega
  refine aj (ae (cT (cs:=[.int .u8 3,nS]) qJ dh (by kernel_rfl)) (aq (cq (vs:=[.int .u8 3,nS]) 2 dh ?_)))
  refine ah (aM (aB ?_))
  refine cN (i:=2) results68 gh F dh F F F ?_
  exact⟨[],Sub.z,[],⟨3,⟨none,0,[]⟩⟩,F,F,(aJ tY).symm,.inl (.inr F)⟩
 have AC: ¬a.k=3:=by omega
 have Ub: ¬a.k=3:=AC
 refine aL (aj (ai F (ae (cQ dR) (ak F (ah (aR (aj (ae (bt gh il) (ae (bq 0 dR) (ae (cQ dR) (ai F (ah (aV (T.fq 72 5 ?_))))))))))))))
 refine dZ (fun(j1:Nat) ρ O=> ∃(oa:Option Addr) (ka:Nat),O=[av oa ka 72 5 (bQ ((a.r.e.take j1).map (eB 0))),oI z3 69 a.cells,oI z2 153 [(vI 0),(vI 0)],oI z1 69 [(.int .u8 0),nS]]∧j1≤a.r.e.length∧df [(0,v8 op),(1,(.slice tb 1 tc)),(4,(.pointer (aD z1))),(5,(.slice oa (((a.r.e.take j1).map (eB 0)).length) ka)),(6,(.pointer (aD z2))),(7,vI 0),(8,(.pointer (aD z3))),(9,vI (0:Int)),(12,(.agg #[(vI 0),(vI 0)])),(13,(.slice tb 1 tc)),(14,vI 1),(15,vI 0),(27,(.slice a.r.b a.r.e.length a.r.c)),(28,vI (a.r.e.length:Int)),(29,vN j1)] ρ) (fun j1=>a.r.e.length-j1) 0 ?_ ?_
 ·exact⟨none,0,F,bl _,(.of F)⟩
 rintro j1 ρ O ⟨oa,ka,rfl,hj,hH⟩
 obtain⟨gA,rfl⟩:=hH.elim
 clear hH
 refine aj (ae cU (ah (aR (aZ F (fun hc=>?_) (fun hc=>?_)))))
 ·have iW:j1<a.r.e.length:=by omega
  have E_:zN a.r.e.length a.r.e[j1]:=Cw.pc _ (aN iW)
  have Xc:=E_.a0;have Ax:=E_.a1;have Fa:=E_.b0;have hp4:=E_.b1
  have hp5:a.r.e.length≤64:=Cw.len
  refine aL (aR (aV (aj ?_)))
  refine ae (eA (i:=j1) dR cJ F F (aK ha) iW (by rw[cB];omega)) (ae (eW (vs:=a.r.e[j1].cl) dt F cJ F F (bu _) (aK ha) (fW (ap iW))) ?_)
  refine aq (bs cJ (fun z4=>?_))
  refine aq (cq (vs:=a.r.e[j1].cl) 0 cJ ?_)
  refine ah ?_
  refine fg (fun ρ O=>Sub [oI z4 72 (eB 0 a.r.e[j1]).cl,av oa ka 72 5 (bQ ((a.r.e.take j1).map (eB 0))),oI z3 69 a.cells,oI z2 153 [(vI 0),(vI 0)],oI z1 69 [(.int .u8 0),nS]] O∧df [(0,v8 op),(1,(.slice tb 1 tc)),(4,(.pointer (aD z1))),(5,(.slice oa (((a.r.e.take j1).map (eB 0)).length) ka)),(6,(.pointer (aD z2))),(7,vI 0),(8,(.pointer (aD z3))),(9,vI (0:Int)),(11,(.pointer (aD z4))),(12,(.agg #[(vI 0),(vI 0)])),(13,(.slice tb 1 tc)),(14,vI 1),(15,vI 0),(27,(.slice a.r.b a.r.e.length a.r.c)),(28,vI (a.r.e.length:Int)),(29,vN j1)] ρ) ?_ ?_
  ·refine aR ?_
   refine bg (ae (bt dt eD) (ae (bq 0 gH) (ah (aV ?_))))
   refine fg (fun ρ O=>Sub [oI z4 72 a.r.e[j1].cl,av oa ka 72 5 (bQ ((a.r.e.take j1).map (eB 0))),oI z3 69 a.cells,oI z2 153 [(vI 0),(vI 0)],oI z1 69 [(.int .u8 0),nS]] O∧df [(0,v8 op),(1,(.slice tb 1 tc)),(4,(.pointer (aD z1))),(5,(.slice oa (((a.r.e.take j1).map (eB 0)).length) ka)),(6,(.pointer (aD z2))),(7,vI 0),(8,(.pointer (aD z3))),(9,vI (0:Int)),(11,(.pointer (aD z4))),(12,(.agg #[(vI 0),(vI 0)])),(13,(.slice tb 1 tc)),(14,vI 1),(15,vI 0),(27,(.slice a.r.b a.r.e.length a.r.c)),(28,vI (a.r.e.length:Int)),(29,vN j1),(34,v8 (a.r.e[j1].op)),(35,.bool (decide (a.r.e[j1].op=7∨a.r.e[j1].op=8)))] ρ) ?_ ?_
   ·refine aR ?_
    refine bg (ae bK (ak F (ah (aZ F (fun hc=>?_) (fun hc=>?_)))))
    ·have C7:a.r.e[j1].op=7:=by omega
     refine aL ?_
     exact⟨(by exact Sub.rf),⟨F,F,F,F,F,F,F,F,F,F,F,F,F,F,F,F,F,(au Value.bool (decide_eq_decide.2 (by omega))),trivial⟩⟩
    have C8: ¬a.r.e[j1].op=7:=by omega
    refine bg (ae bK (ak F (ah ?_)))
    exact⟨(by exact Sub.rf),⟨F,F,F,F,F,F,F,F,F,F,F,F,F,F,F,F,F,(au Value.bool (decide_eq_decide.2 (by omega))),trivial⟩⟩
   rintro ρ O ⟨hS,hH⟩
   obtain⟨gA,rfl⟩:=hH.elim
   clear hH
   refine dc hS ?_
   refine aZ F (fun hc=>?_) (fun hc=>?_)
   ·refine bg ?_
    refine ae (bt dt bF) (ae (bq 0 ey) (ai F (ae (jx F F (by omega)) (ae (bt dt bF) (aq (cq (vs:=[(vI (a.r.e[j1].a+(0:Int)))]) 0 bF ?_))))))
    refine ah ?_
    exact⟨(by first|(rw[mZ (by omega)];exact Sub.rf)|(rw[m_ (by omega)];exact Sub.rf)|(rw[pO (by omega) (by omega)];exact Sub.rf)),(.of F)⟩
   refine fg (fun ρ O=>Sub [oI z4 72 a.r.e[j1].cl,av oa ka 72 5 (bQ ((a.r.e.take j1).map (eB 0))),oI z3 69 a.cells,oI z2 153 [(vI 0),(vI 0)],oI z1 69 [(.int .u8 0),nS]] O∧df [(0,v8 op),(1,(.slice tb 1 tc)),(4,(.pointer (aD z1))),(5,(.slice oa (((a.r.e.take j1).map (eB 0)).length) ka)),(6,(.pointer (aD z2))),(7,vI 0),(8,(.pointer (aD z3))),(9,vI (0:Int)),(11,(.pointer (aD z4))),(12,(.agg #[(vI 0),(vI 0)])),(13,(.slice tb 1 tc)),(14,vI 1),(15,vI 0),(27,(.slice a.r.b a.r.e.length a.r.c)),(28,vI (a.r.e.length:Int)),(29,vN j1),(35,.bool (decide (a.r.e[j1].op=7∨a.r.e[j1].op=8))),(43,.bool (decide (a.r.e[j1].op=4∨a.r.e[j1].op=5∨a.r.e[j1].op=6)))] ρ) ?_ ?_
   ·refine aR ?_
    refine bg (ae bK (ak F (ah (aZ F (fun hc=>?_) (fun hc=>?_)))))
    ·have tZ:a.r.e[j1].op=4:=by omega
     refine aL ?_
     exact⟨(by exact Sub.rf),⟨F,F,F,F,F,F,F,F,F,F,F,F,F,F,F,F,F,(au Value.bool (decide_eq_decide.2 (by omega))),trivial⟩⟩
    have vZ: ¬a.r.e[j1].op=4:=by omega
    refine aj (ae bK (ak F (ah (aZ F (fun hc=>?_) (fun hc=>?_)))))
    ·have tZ:a.r.e[j1].op=5:=by omega
     refine aL ?_
     exact⟨(by exact Sub.rf),⟨F,F,F,F,F,F,F,F,F,F,F,F,F,F,F,F,F,(au Value.bool (decide_eq_decide.2 (by omega))),trivial⟩⟩
    have vZ: ¬a.r.e[j1].op=5:=by omega
    refine bg (ae bK (ak F (ah ?_)))
    exact⟨(by exact Sub.rf),⟨F,F,F,F,F,F,F,F,F,F,F,F,F,F,F,F,F,(au Value.bool (decide_eq_decide.2 (by omega))),trivial⟩⟩
   rintro ρ O ⟨hS,hH⟩
   obtain⟨gA,rfl⟩:=hH.elim
   clear hH
   refine dc hS ?_
   refine aZ F (fun hc=>?_) (fun hc=>?_)
   ·refine bg ?_
    refine ae (bt dt bF) (ae (bq 0 ey) (ai F (ae (jx F F (by omega)) (ae (bt dt bF) (ae (bq 0 ey) (ai F (ae (jx F F (by omega)) (ae (bt dt bF) (aq (cq (vs:=[(vI (a.r.e[j1].a+(0:Int)))]) 0 bF ?_))))))))))
    refine ae (bt dt bF) (aq (cq (vs:=[(vI (a.r.e[j1].b+(0:Int)))]) 0 bF ?_))
    refine ah ?_
    exact⟨(by first|(rw[mZ (by omega)];exact Sub.rf)|(rw[m_ (by omega)];exact Sub.rf)|(rw[pO (by omega) (by omega)];exact Sub.rf)),(.of F)⟩
   refine aL ?_
   exact⟨(by first|(rw[mZ (by omega)];exact Sub.rf)|(rw[m_ (by omega)];exact Sub.rf)|(rw[pO (by omega) (by omega)];exact Sub.rf)),(.of F)⟩
  rintro ρ O ⟨hS,hH⟩
  obtain⟨gA,rfl⟩:=hH.elim
  clear hH
  refine dc hS ?_
  refine bg (ai F (ae (eN 0 dt cJ) (aq (cK (m:=1) (parts:=[(0,_)]) (cs:=(eB 0 a.r.e[j1]).cl) dR cJ (by decide) (by kernel_rfl) F (fun z5=>?_)))))
  refine aq (dq 2 dR dR cJ F F F F (by rw[cB]) (by decide) (Src.row (j:=0) F (by simp)) (by simp[fF]) (by simp only[du,aP,ar,cw];omega) (by decide) (by decide) (fun z6 Jd=>?_))
  refine ak F (ah (bg (ae (dr (a:=j1) (b:=1) F F (by omega)) (ai F (ah ?_)))))
  exact⟨j1+1,by omega,[av z6 Jd 72 5 ((bQ ((a.r.e.take j1).map (eB 0)))++(eB 0 a.r.e[j1]).cl),oI z3 69 a.cells,oI z2 153 [(vI 0),(vI 0)],oI z1 69 [(.int .u8 0),nS]],(by exact Sub.d (.d (.k (.k (.k (.k .z)))))),z6,Jd,by rw[jF iW,l8 (((a.r.e.take j1).map (eB 0)))];rfl,by omega,⟨F,F,F,(au (fun n9=>Value.slice z6 n9 Jd) (show(((a.r.e.take j1).map (eB 0)).length)+1=(((a.r.e.take (j1+1)).map (eB 0))).length by rw[jF iW];simp only[aP,bG,dl]<;>omega)),F,F,F,F,F,F,F,F,F,F,F,trivial⟩⟩
 have Ha: ¬j1<a.r.e.length:=by omega
 have OX:j1=a.r.e.length:=by omega
 have Lc:0<a.r.e.length:=Cw.pos Ub
 have hqa:a.r.e.length≤64:=Cw.len
 have Xg:((a.r.e.take j1).map (eB 0))=a.r.e:=by rw[OX,List.take_length,show eB 0=id from funext C4,List.map_id]
 have Lp:((a.r.e.take j1).map (eB 0)).length=a.r.e.length:=by rw[OX];simp
 refine cG ?_
 refine bg (ai F (ai F (ae (cQ dR) (ae (sO (a:=(((a.r.e.take j1).map (eB 0)).length)) (b:=1) F F (by omega) (by omega)) (ae (jJ (i:=0) tX bF F F (by decide)) (aq (cq (vs:=[(vN ((((a.r.e.take j1).map (eB 0)).length)-1))]) 2 bF ?_)))))))
 refine ah (bg (ae (bL (jx F F (by omega)) (v':=vI 1) F) (ai F (ah ?_))))
 refine oh [av oa ka 72 5 (bQ ((a.r.e.take j1).map (eB 0))),oI z3 69 a.cells,oI z2 153 [(vN ((((a.r.e.take j1).map (eB 0)).length)-1)),(vI 0)],oI z1 69 [(.int .u8 0),nS]] [(0,v8 op),(1,(.slice tb 1 tc)),(4,(.pointer (aD z1))),(5,(.slice oa (((a.r.e.take j1).map (eB 0)).length) ka)),(6,(.pointer (aD z2))),(7,vI 0),(8,(.pointer (aD z3))),(9,vI (0:Int)),(12,(.agg #[(vI 0),(vI 0)])),(13,(.slice tb 1 tc)),(14,vI 1),(15,vI 1)] F (.of F) (fun gA=>?_)
 refine T.round ?_
 refine aj (ae (aC cU (b':=false) F) (ah (aR (a8 ?_))))
 refine cG ?_
 refine aj (ai F (ai F (ae (jJ (i:=0) tX bF F F (by decide)) (ae (bq 2 ey) (ae (jJ (i:=1) tX bF F F (by decide)) (ae (bq 2 ey) (ae (cT (cs:=[v8 op,(.int .u8 0),(.int .u8 0),(vN ((((a.r.e.take j1).map (eB 0)).length)-1)),(vI 0)]) nI cJ (by kernel_rfl)) (aq (cK (m:=1) (parts:=[(0,_)]) (cs:=[v8 op,(.int .u8 0),(.int .u8 0),(vN ((((a.r.e.take j1).map (eB 0)).length)-1)),(vI 0)]) dR cJ (by decide) (by kernel_rfl) F (fun z8=>?_))))))))))
 refine aq (dq 1 dR dR cJ F F F F (by rw[cB]) (by decide) (Src.row (j:=0) F (by simp)) (by simp[fF]) (by simp only[du,aP,ar,cw];omega) (by decide) (by decide) (fun z9 pP=>?_))
 refine ak F (ah (aR (aj (ai F (ae (cQ dR) (ae ij (ah (aZ F (fun hc=>?_) (fun hc=>?_)))))))))
 ·have Lq:(((a.r.e.take j1).map (eB 0)).length)+1>64:=by omega
  have hL:=Lq
  refine aj (ae (cT (cs:=[.int .u8 3,nS]) qJ dh (by kernel_rfl)) (aq (cq (vs:=[.int .u8 3,nS]) 4 dh ?_)))
  refine ah (aM (aB ?_))
  refine cN (i:=4) results68 gh F dh F F F ?_
  exact⟨[],Sub.z,[],⟨3,⟨none,0,[]⟩⟩,F,F,(FE Ub (by rw[Xg]at hL;simpa using hL)).symm,.inl (.inr F)⟩
 have Lr: ¬(((a.r.e.take j1).map (eB 0)).length)+1>64:=by omega
 have hL:=Lr
 refine aL (aj (ai F (ae (cT (cs:=[(.int .u8 0),(.slice z9 ((((a.r.e.take j1).map (eB 0)).length)+1) pP)]) qJ dh (by kernel_rfl)) (aq (cq (vs:=[(.int .u8 0),(.slice z9 ((((a.r.e.take j1).map (eB 0)).length)+1) pP)]) 4 dh ?_)))))
 refine ah (aM (aB ?_))
 refine cN (i:=4) results68 gh F dh F F F ?_
 have Uc:=Jb (op:=op) Ub (by rw[Xg]at hL;simpa using hL)
 exact⟨[av z9 pP 72 5 ((bQ ((a.r.e.take j1).map (eB 0)))++[v8 op,(.int .u8 0),(.int .u8 0),(vN ((((a.r.e.take j1).map (eB 0)).length)-1)),(vI 0)])],(by exact Sub.d (.k .z)),[⟨z9,pP,(qH op a.pp).2⟩],⟨0,⟨z9,pP,(qH op a.pp).2⟩⟩,au (fun n9=>Value.agg #[.int .u8 0,.slice z9 n9 pP]) (show(((a.r.e.take j1).map (eB 0)).length)+1=((qH op a.pp).2).length by rw[Uc,Xg];first|(simp;done)|(simp;omega)),au (fun z=>[av z9 pP 72 5 z]) (show(bQ ((a.r.e.take j1).map (eB 0)))++[v8 op,(.int .u8 0),(.int .u8 0),(vN ((((a.r.e.take j1).map (eB 0)).length)-1)),(vI 0)]=bQ ((qH op a.pp).2) by rw[Uc,Xg,l8];first|(simp[bQ,eC.cells];done)|(simp[bQ,eC.cells];omega)),by rw[Uc];rfl,.inl (.inl (List.mem_singleton.2 F))⟩
theorem Ls (w:World) [dA prog w] (op:Nat) (tb:Option Addr) (tc:Nat) (a b:PR) (hT:Sl w tb (eL [a,b])) (ha:Sl w a.r.b (bQ a.r.e)) (Cw:fN a.pp) (hb:Sl w b.r.b (bQ b.r.e)) (Sc:fN b.pp):
  cn prog 68 [v8 op,(.slice tb 2 tc)] w (Xf 72 [a,b] (oT op a.pp b.pp)):=by
 refine aE func68 F ntmps68 F ?_
 refine aj (aq (bs dh (fun z1=>?_)))
 refine ah (aj (ak F (ah (aj (ae (tS (cs:=[(vI 0),(vI 0)]) tX bF u9 (by kernel_rfl)) (aq (bs u9 (fun z2=>?_))))))))
 refine aq (cq (vs:=[(vI 0),(vI 0)]) 0 u9 ?_)
 refine ah (aR (aj (ai F (ae (bL (cQ mr) (v':=vI 2) F) (ai F (ah (aV ?_)))))))
 refine pM 3 (T.round ?_)
 refine aj (ae (aC cU (b':=true) F) (ah (aR ?_)))
 refine b_ ?_
 refine aL (aR (aV (aj (ai F (ae (eA (i:=0) mr dh F F (aK hT) (by simp) (by rw[ik];simp)) (ae (eW (vs:=a.cells) gh F dh F F (bu _) (aK hT) (om (l:=[a,b]) (i:=0) (by simp))) (aq (bs dh (fun z3=>?_)))))))))
 refine ak F (aq (cq (vs:=a.cells) 0 dh ?_))
 refine ah (aR (aj (ae (bt gh oo) (ae (bq 0 u_) (ae bK (ah (aZ F (fun hc=>?_) (fun hc=>?_))))))))
 ·have tY:a.k=3:=by omega
  refine aj (ae (cT (cs:=[.int .u8 3,nS]) qJ dh (by kernel_rfl)) (aq (cq (vs:=[.int .u8 3,nS]) 2 dh ?_)))
  refine ah (aM (aB ?_))
  refine cN (i:=2) results68 gh F dh F F F ?_
  exact⟨[],Sub.z,[],⟨3,⟨none,0,[]⟩⟩,F,F,(aJ (.inl tY)).symm,.inl (.inr F)⟩
 have AC: ¬a.k=3:=by omega
 have Ub: ¬a.k=3:=AC
 refine aL (aj (ai F (ae (cQ dR) (ak F (ah (aR (aj (ae (bt gh il) (ae (bq 0 dR) (ae (cQ dR) (ai F (ah (aV (T.fq 72 5 ?_))))))))))))))
 refine dZ (fun(j1:Nat) ρ O=> ∃(oa:Option Addr) (ka:Nat),O=[av oa ka 72 5 (bQ ((a.r.e.take j1).map (eB 0))),oI z3 69 a.cells,oI z2 153 [(vI 0),(vI 0)],oI z1 69 [(.int .u8 0),nS]]∧j1≤a.r.e.length∧df [(0,v8 op),(1,(.slice tb 2 tc)),(4,(.pointer (aD z1))),(5,(.slice oa (((a.r.e.take j1).map (eB 0)).length) ka)),(6,(.pointer (aD z2))),(7,vI 0),(8,(.pointer (aD z3))),(9,vI (0:Int)),(12,(.agg #[(vI 0),(vI 0)])),(13,(.slice tb 2 tc)),(14,vI 2),(15,vI 0),(27,(.slice a.r.b a.r.e.length a.r.c)),(28,vI (a.r.e.length:Int)),(29,vN j1)] ρ) (fun j1=>a.r.e.length-j1) 0 ?_ ?_
 ·exact⟨none,0,F,bl _,(.of F)⟩
 rintro j1 ρ O ⟨oa,ka,rfl,hj,hH⟩
 obtain⟨gA,rfl⟩:=hH.elim
 clear hH
 refine aj (ae cU (ah (aR (aZ F (fun hc=>?_) (fun hc=>?_)))))
 ·have iW:j1<a.r.e.length:=by omega
  have E_:zN a.r.e.length a.r.e[j1]:=Cw.pc _ (aN iW)
  have Xc:=E_.a0;have Ax:=E_.a1;have Fa:=E_.b0;have hp4:=E_.b1
  have hp5:a.r.e.length≤64:=Cw.len
  refine aL (aR (aV (aj ?_)))
  refine ae (eA (i:=j1) dR cJ F F (aK ha) iW (by rw[cB];omega)) (ae (eW (vs:=a.r.e[j1].cl) dt F cJ F F (bu _) (aK ha) (fW (ap iW))) ?_)
  refine aq (bs cJ (fun z4=>?_))
  refine aq (cq (vs:=a.r.e[j1].cl) 0 cJ ?_)
  refine ah ?_
  refine fg (fun ρ O=>Sub [oI z4 72 (eB 0 a.r.e[j1]).cl,av oa ka 72 5 (bQ ((a.r.e.take j1).map (eB 0))),oI z3 69 a.cells,oI z2 153 [(vI 0),(vI 0)],oI z1 69 [(.int .u8 0),nS]] O∧df [(0,v8 op),(1,(.slice tb 2 tc)),(4,(.pointer (aD z1))),(5,(.slice oa (((a.r.e.take j1).map (eB 0)).length) ka)),(6,(.pointer (aD z2))),(7,vI 0),(8,(.pointer (aD z3))),(9,vI (0:Int)),(11,(.pointer (aD z4))),(12,(.agg #[(vI 0),(vI 0)])),(13,(.slice tb 2 tc)),(14,vI 2),(15,vI 0),(27,(.slice a.r.b a.r.e.length a.r.c)),(28,vI (a.r.e.length:Int)),(29,vN j1)] ρ) ?_ ?_
  ·refine aR ?_
   refine bg (ae (bt dt eD) (ae (bq 0 gH) (ah (aV ?_))))
   refine fg (fun ρ O=>Sub [oI z4 72 a.r.e[j1].cl,av oa ka 72 5 (bQ ((a.r.e.take j1).map (eB 0))),oI z3 69 a.cells,oI z2 153 [(vI 0),(vI 0)],oI z1 69 [(.int .u8 0),nS]] O∧df [(0,v8 op),(1,(.slice tb 2 tc)),(4,(.pointer (aD z1))),(5,(.slice oa (((a.r.e.take j1).map (eB 0)).length) ka)),(6,(.pointer (aD z2))),(7,vI 0),(8,(.pointer (aD z3))),(9,vI (0:Int)),(11,(.pointer (aD z4))),(12,(.agg #[(vI 0),(vI 0)])),(13,(.slice tb 2 tc)),(14,vI 2),(15,vI 0),(27,(.slice a.r.b a.r.e.length a.r.c)),(28,vI (a.r.e.length:Int)),(29,vN j1),(34,v8 (a.r.e[j1].op)),(35,.bool (decide (a.r.e[j1].op=7∨a.r.e[j1].op=8)))] ρ) ?_ ?_
   ·refine aR ?_
    refine bg (ae bK (ak F (ah (aZ F (fun hc=>?_) (fun hc=>?_)))))
    ·have C7:a.r.e[j1].op=7:=by omega
     refine aL ?_
     exact⟨(by exact Sub.rf),⟨F,F,F,F,F,F,F,F,F,F,F,F,F,F,F,F,F,(au Value.bool (decide_eq_decide.2 (by omega))),trivial⟩⟩
    have C8: ¬a.r.e[j1].op=7:=by omega
    refine bg (ae bK (ak F (ah ?_)))
    exact⟨(by exact Sub.rf),⟨F,F,F,F,F,F,F,F,F,F,F,F,F,F,F,F,F,(au Value.bool (decide_eq_decide.2 (by omega))),trivial⟩⟩
   rintro ρ O ⟨hS,hH⟩
   obtain⟨gA,rfl⟩:=hH.elim
   clear hH
   refine dc hS ?_
   refine aZ F (fun hc=>?_) (fun hc=>?_)
   ·refine bg ?_
    refine ae (bt dt bF) (ae (bq 0 ey) (ai F (ae (jx F F (by omega)) (ae (bt dt bF) (aq (cq (vs:=[(vI (a.r.e[j1].a+(0:Int)))]) 0 bF ?_))))))
    refine ah ?_
    exact⟨(by first|(rw[mZ (by omega)];exact Sub.rf)|(rw[m_ (by omega)];exact Sub.rf)|(rw[pO (by omega) (by omega)];exact Sub.rf)),(.of F)⟩
   refine fg (fun ρ O=>Sub [oI z4 72 a.r.e[j1].cl,av oa ka 72 5 (bQ ((a.r.e.take j1).map (eB 0))),oI z3 69 a.cells,oI z2 153 [(vI 0),(vI 0)],oI z1 69 [(.int .u8 0),nS]] O∧df [(0,v8 op),(1,(.slice tb 2 tc)),(4,(.pointer (aD z1))),(5,(.slice oa (((a.r.e.take j1).map (eB 0)).length) ka)),(6,(.pointer (aD z2))),(7,vI 0),(8,(.pointer (aD z3))),(9,vI (0:Int)),(11,(.pointer (aD z4))),(12,(.agg #[(vI 0),(vI 0)])),(13,(.slice tb 2 tc)),(14,vI 2),(15,vI 0),(27,(.slice a.r.b a.r.e.length a.r.c)),(28,vI (a.r.e.length:Int)),(29,vN j1),(35,.bool (decide (a.r.e[j1].op=7∨a.r.e[j1].op=8))),(43,.bool (decide (a.r.e[j1].op=4∨a.r.e[j1].op=5∨a.r.e[j1].op=6)))] ρ) ?_ ?_
   ·refine aR ?_
    refine bg (ae bK (ak F (ah (aZ F (fun hc=>?_) (fun hc=>?_)))))
    ·have tZ:a.r.e[j1].op=4:=by omega
     refine aL ?_
     exact⟨(by exact Sub.rf),⟨F,F,F,F,F,F,F,F,F,F,F,F,F,F,F,F,F,(au Value.bool (decide_eq_decide.2 (by omega))),trivial⟩⟩
    have vZ: ¬a.r.e[j1].op=4:=by omega
    refine aj (ae bK (ak F (ah (aZ F (fun hc=>?_) (fun hc=>?_)))))
    ·have tZ:a.r.e[j1].op=5:=by omega
     refine aL ?_
     exact⟨(by exact Sub.rf),⟨F,F,F,F,F,F,F,F,F,F,F,F,F,F,F,F,F,(au Value.bool (decide_eq_decide.2 (by omega))),trivial⟩⟩
    have vZ: ¬a.r.e[j1].op=5:=by omega
    refine bg (ae bK (ak F (ah ?_)))
    exact⟨(by exact Sub.rf),⟨F,F,F,F,F,F,F,F,F,F,F,F,F,F,F,F,F,(au Value.bool (decide_eq_decide.2 (by omega))),trivial⟩⟩
   rintro ρ O ⟨hS,hH⟩
   obtain⟨gA,rfl⟩:=hH.elim
   clear hH
   refine dc hS ?_
   refine aZ F (fun hc=>?_) (fun hc=>?_)
   ·refine bg ?_
    refine ae (bt dt bF) (ae (bq 0 ey) (ai F (ae (jx F F (by omega)) (ae (bt dt bF) (ae (bq 0 ey) (ai F (ae (jx F F (by omega)) (ae (bt dt bF) (aq (cq (vs:=[(vI (a.r.e[j1].a+(0:Int)))]) 0 bF ?_))))))))))
    refine ae (bt dt bF) (aq (cq (vs:=[(vI (a.r.e[j1].b+(0:Int)))]) 0 bF ?_))
    refine ah ?_
    exact⟨(by first|(rw[mZ (by omega)];exact Sub.rf)|(rw[m_ (by omega)];exact Sub.rf)|(rw[pO (by omega) (by omega)];exact Sub.rf)),(.of F)⟩
   refine aL ?_
   exact⟨(by first|(rw[mZ (by omega)];exact Sub.rf)|(rw[m_ (by omega)];exact Sub.rf)|(rw[pO (by omega) (by omega)];exact Sub.rf)),(.of F)⟩
  rintro ρ O ⟨hS,hH⟩
  obtain⟨gA,rfl⟩:=hH.elim
  clear hH
  refine dc hS ?_
  refine bg (ai F (ae (eN 0 dt cJ) (aq (cK (m:=1) (parts:=[(0,_)]) (cs:=(eB 0 a.r.e[j1]).cl) dR cJ (by decide) (by kernel_rfl) F (fun z5=>?_)))))
  refine aq (dq 2 dR dR cJ F F F F (by rw[cB]) (by decide) (Src.row (j:=0) F (by simp)) (by simp[fF]) (by simp only[du,aP,ar,cw];omega) (by decide) (by decide) (fun z6 Jd=>?_))
  refine ak F (ah (bg (ae (dr (a:=j1) (b:=1) F F (by omega)) (ai F (ah ?_)))))
  exact⟨j1+1,by omega,[av z6 Jd 72 5 ((bQ ((a.r.e.take j1).map (eB 0)))++(eB 0 a.r.e[j1]).cl),oI z3 69 a.cells,oI z2 153 [(vI 0),(vI 0)],oI z1 69 [(.int .u8 0),nS]],(by exact Sub.d (.d (.k (.k (.k (.k .z)))))),z6,Jd,by rw[jF iW,l8 (((a.r.e.take j1).map (eB 0)))];rfl,by omega,⟨F,F,F,(au (fun n9=>Value.slice z6 n9 Jd) (show(((a.r.e.take j1).map (eB 0)).length)+1=(((a.r.e.take (j1+1)).map (eB 0))).length by rw[jF iW];simp only[aP,bG,dl]<;>omega)),F,F,F,F,F,F,F,F,F,F,F,trivial⟩⟩
 have Ha: ¬j1<a.r.e.length:=by omega
 have OX:j1=a.r.e.length:=by omega
 have Lc:0<a.r.e.length:=Cw.pos Ub
 have hqa:a.r.e.length≤64:=Cw.len
 have Xg:((a.r.e.take j1).map (eB 0))=a.r.e:=by rw[OX,List.take_length,show eB 0=id from funext C4,List.map_id]
 have Lp:((a.r.e.take j1).map (eB 0)).length=a.r.e.length:=by rw[OX];simp
 refine cG ?_
 refine bg (ai F (ai F (ae (cQ dR) (ae (sO (a:=(((a.r.e.take j1).map (eB 0)).length)) (b:=1) F F (by omega) (by omega)) (ae (jJ (i:=0) tX bF F F (by decide)) (aq (cq (vs:=[(vN ((((a.r.e.take j1).map (eB 0)).length)-1))]) 2 bF ?_)))))))
 refine ah (bg (ae (bL (jx F F (by omega)) (v':=vI 1) F) (ai F (ah ?_))))
 refine oh [av oa ka 72 5 (bQ ((a.r.e.take j1).map (eB 0))),oI z3 69 a.cells,oI z2 153 [(vN ((((a.r.e.take j1).map (eB 0)).length)-1)),(vI 0)],oI z1 69 [(.int .u8 0),nS]] [(0,v8 op),(1,(.slice tb 2 tc)),(4,(.pointer (aD z1))),(5,(.slice oa (((a.r.e.take j1).map (eB 0)).length) ka)),(6,(.pointer (aD z2))),(7,vI 0),(8,(.pointer (aD z3))),(9,vI (0:Int)),(12,(.agg #[(vI 0),(vI 0)])),(13,(.slice tb 2 tc)),(14,vI 2),(15,vI 1)] F (.of F) (fun gA=>?_)
 refine T.round ?_
 refine aj (ae (aC cU (b':=true) F) (ah (aR ?_)))
 refine b_ ?_
 refine aL (aR (aV (aj (ai F (ae (eA (i:=1) mr dh F F (aK hT) (by simp) (by rw[ik];simp)) (ae (eW (vs:=b.cells) gh F dh F F (bu _) (aK hT) (om (l:=[a,b]) (i:=1) (by simp))) (aq (bs dh (fun z8=>?_)))))))))
 refine ak F (aq (cq (vs:=b.cells) 0 dh ?_))
 refine ah (aR (aj (ae (bt gh oo) (ae (bq 0 u_) (ae bK (ah (aZ F (fun hc=>?_) (fun hc=>?_))))))))
 ·have tY:b.k=3:=by omega
  refine aj (ae (cT (cs:=[.int .u8 3,nS]) qJ dh (by kernel_rfl)) (aq (cq (vs:=[.int .u8 3,nS]) 4 dh ?_)))
  refine ah (aM (aB ?_))
  refine cN (i:=4) results68 gh F dh F F F ?_
  exact⟨[],Sub.z,[],⟨3,⟨none,0,[]⟩⟩,F,F,(aJ (.inr tY)).symm,.inl (.inr F)⟩
 have AC: ¬b.k=3:=by omega
 have C9: ¬b.k=3:=AC
 refine aL (aj (ai F (ae (cQ dR) (ak F (ah (aR (aj (ae (bt gh il) (ae (bq 0 dR) (ae (cQ dR) (ai F (ah (aV ?_)))))))))))))
 refine dZ (fun(j2:Nat) ρ O=> ∃(ob:Option Addr) (kb:Nat),O=[oI z8 69 b.cells,av ob kb 72 5 (bQ (((a.r.e.take j1).map (eB 0))++(b.r.e.take j2).map (eB (((a.r.e.take j1).map (eB 0)).length)))),oI z3 69 a.cells,oI z2 153 [(vN ((((a.r.e.take j1).map (eB 0)).length)-1)),(vI 0)],oI z1 69 [(.int .u8 0),nS]]∧j2≤b.r.e.length∧df [(0,v8 op),(1,(.slice tb 2 tc)),(4,(.pointer (aD z1))),(5,(.slice ob ((((a.r.e.take j1).map (eB 0))++(b.r.e.take j2).map (eB (((a.r.e.take j1).map (eB 0)).length))).length) kb)),(6,(.pointer (aD z2))),(7,vI 1),(8,(.pointer (aD z8))),(9,vI (((a.r.e.take j1).map (eB 0)).length:Int)),(12,(.agg #[(vI 0),(vI 0)])),(13,(.slice tb 2 tc)),(14,vI 2),(15,vI 1),(27,(.slice b.r.b b.r.e.length b.r.c)),(28,vI (b.r.e.length:Int)),(29,vN j2)] ρ) (fun j2=>b.r.e.length-j2) 0 ?_ ?_
 ·exact⟨oa,ka,by rw[List.take_zero,fV,c_];rfl,bl _,⟨F,F,F,(au (fun n9=>Value.slice oa n9 ka) (show((a.r.e.take j1).map (eB 0)).length=((((a.r.e.take j1).map (eB 0))++(b.r.e.take 0).map (eB (((a.r.e.take j1).map (eB 0)).length)))).length by rw[List.take_zero,fV,c_])),F,F,F,F,F,F,F,F,F,F,F,trivial⟩⟩
 rintro j2 ρ O ⟨ob,kb,rfl,hj,hH⟩
 obtain⟨gA,rfl⟩:=hH.elim
 clear hH
 refine aj (ae cU (ah (aR (aZ F (fun hc=>?_) (fun hc=>?_)))))
 ·have iW:j2<b.r.e.length:=by omega
  have E_:zN b.r.e.length b.r.e[j2]:=Sc.pc _ (aN iW)
  have Xc:=E_.a0;have Ax:=E_.a1;have Fa:=E_.b0;have hp4:=E_.b1
  have hp5:a.r.e.length≤64:=Cw.len
  have hp6:b.r.e.length≤64:=Sc.len
  have hp7:(((a.r.e.take j1).map (eB 0))).length≤64:=by simp;omega
  refine aL (aR (aV (aj ?_)))
  refine ae (eA (i:=j2) dR cJ F F (aK hb) iW (by rw[cB];omega)) (ae (eW (vs:=b.r.e[j2].cl) dt F cJ F F (bu _) (aK hb) (fW (ap iW))) ?_)
  refine aq (bs cJ (fun z9=>?_))
  refine aq (cq (vs:=b.r.e[j2].cl) 0 cJ ?_)
  refine ah ?_
  refine fg (fun ρ O=>Sub [oI z9 72 [.int .u8 (((eB (((a.r.e.take j1).map (eB 0)).length) b.r.e[j2]).op:Nat):Int),.int .u8 (((eB (((a.r.e.take j1).map (eB 0)).length) b.r.e[j2]).p:Nat):Int),.int .u8 (((eB (((a.r.e.take j1).map (eB 0)).length) b.r.e[j2]).n:Nat):Int),vI (eB (((a.r.e.take j1).map (eB 0)).length) b.r.e[j2]).a,vI (eB (((a.r.e.take j1).map (eB 0)).length) b.r.e[j2]).b],oI z8 69 b.cells,av ob kb 72 5 (bQ (((a.r.e.take j1).map (eB 0))++(b.r.e.take j2).map (eB (((a.r.e.take j1).map (eB 0)).length)))),oI z3 69 a.cells,oI z2 153 [(vN ((((a.r.e.take j1).map (eB 0)).length)-1)),(vI 0)],oI z1 69 [(.int .u8 0),nS]] O∧df [(0,v8 op),(1,(.slice tb 2 tc)),(4,(.pointer (aD z1))),(5,(.slice ob ((((a.r.e.take j1).map (eB 0))++(b.r.e.take j2).map (eB (((a.r.e.take j1).map (eB 0)).length))).length) kb)),(6,(.pointer (aD z2))),(7,vI 1),(8,(.pointer (aD z8))),(9,vI (((a.r.e.take j1).map (eB 0)).length:Int)),(11,(.pointer (aD z9))),(12,(.agg #[(vI 0),(vI 0)])),(13,(.slice tb 2 tc)),(14,vI 2),(15,vI 1),(27,(.slice b.r.b b.r.e.length b.r.c)),(28,vI (b.r.e.length:Int)),(29,vN j2)] ρ) ?_ ?_
  ·refine aR ?_
   refine bg (ae (bt dt eD) (ae (bq 0 gH) (ah (aV ?_))))
   refine fg (fun ρ O=>Sub [oI z9 72 b.r.e[j2].cl,oI z8 69 b.cells,av ob kb 72 5 (bQ (((a.r.e.take j1).map (eB 0))++(b.r.e.take j2).map (eB (((a.r.e.take j1).map (eB 0)).length)))),oI z3 69 a.cells,oI z2 153 [(vN ((((a.r.e.take j1).map (eB 0)).length)-1)),(vI 0)],oI z1 69 [(.int .u8 0),nS]] O∧df [(0,v8 op),(1,(.slice tb 2 tc)),(4,(.pointer (aD z1))),(5,(.slice ob ((((a.r.e.take j1).map (eB 0))++(b.r.e.take j2).map (eB (((a.r.e.take j1).map (eB 0)).length))).length) kb)),(6,(.pointer (aD z2))),(7,vI 1),(8,(.pointer (aD z8))),(9,vI (((a.r.e.take j1).map (eB 0)).length:Int)),(11,(.pointer (aD z9))),(12,(.agg #[(vI 0),(vI 0)])),(13,(.slice tb 2 tc)),(14,vI 2),(15,vI 1),(27,(.slice b.r.b b.r.e.length b.r.c)),(28,vI (b.r.e.length:Int)),(29,vN j2),(34,v8 (b.r.e[j2].op)),(35,.bool (decide (b.r.e[j2].op=7∨b.r.e[j2].op=8)))] ρ) ?_ ?_
   ·refine aR ?_
    refine bg (ae bK (ak F (ah (aZ F (fun hc=>?_) (fun hc=>?_)))))
    ·have C7:b.r.e[j2].op=7:=by omega
     refine aL ?_
     exact⟨(by exact Sub.rf),⟨F,F,F,F,F,F,F,F,F,F,F,F,F,F,F,F,F,(au Value.bool (decide_eq_decide.2 (by omega))),trivial⟩⟩
    have C8: ¬b.r.e[j2].op=7:=by omega
    refine bg (ae bK (ak F (ah ?_)))
    exact⟨(by exact Sub.rf),⟨F,F,F,F,F,F,F,F,F,F,F,F,F,F,F,F,F,(au Value.bool (decide_eq_decide.2 (by omega))),trivial⟩⟩
   rintro ρ O ⟨hS,hH⟩
   obtain⟨gA,rfl⟩:=hH.elim
   clear hH
   refine dc hS ?_
   refine aZ F (fun hc=>?_) (fun hc=>?_)
   ·refine bg ?_
    refine ae (bt dt bF) (ae (bq 0 ey) (ai F (ae (jx F F (by omega)) (ae (bt dt bF) (aq (cq (vs:=[(vI (b.r.e[j2].a+(((a.r.e.take j1).map (eB 0)).length:Int)))]) 0 bF ?_))))))
    refine ah ?_
    exact⟨(by first|(rw[mZ (by omega)];exact Sub.rf)|(rw[m_ (by omega)];exact Sub.rf)|(rw[pO (by omega) (by omega)];exact Sub.rf)),(.of F)⟩
   refine fg (fun ρ O=>Sub [oI z9 72 b.r.e[j2].cl,oI z8 69 b.cells,av ob kb 72 5 (bQ (((a.r.e.take j1).map (eB 0))++(b.r.e.take j2).map (eB (((a.r.e.take j1).map (eB 0)).length)))),oI z3 69 a.cells,oI z2 153 [(vN ((((a.r.e.take j1).map (eB 0)).length)-1)),(vI 0)],oI z1 69 [(.int .u8 0),nS]] O∧df [(0,v8 op),(1,(.slice tb 2 tc)),(4,(.pointer (aD z1))),(5,(.slice ob ((((a.r.e.take j1).map (eB 0))++(b.r.e.take j2).map (eB (((a.r.e.take j1).map (eB 0)).length))).length) kb)),(6,(.pointer (aD z2))),(7,vI 1),(8,(.pointer (aD z8))),(9,vI (((a.r.e.take j1).map (eB 0)).length:Int)),(11,(.pointer (aD z9))),(12,(.agg #[(vI 0),(vI 0)])),(13,(.slice tb 2 tc)),(14,vI 2),(15,vI 1),(27,(.slice b.r.b b.r.e.length b.r.c)),(28,vI (b.r.e.length:Int)),(29,vN j2),(35,.bool (decide (b.r.e[j2].op=7∨b.r.e[j2].op=8))),(43,.bool (decide (b.r.e[j2].op=4∨b.r.e[j2].op=5∨b.r.e[j2].op=6)))] ρ) ?_ ?_
   ·refine aR ?_
    refine bg (ae bK (ak F (ah (aZ F (fun hc=>?_) (fun hc=>?_)))))
    ·have tZ:b.r.e[j2].op=4:=by omega
     refine aL ?_
     exact⟨(by exact Sub.rf),⟨F,F,F,F,F,F,F,F,F,F,F,F,F,F,F,F,F,(au Value.bool (decide_eq_decide.2 (by omega))),trivial⟩⟩
    have vZ: ¬b.r.e[j2].op=4:=by omega
    refine aj (ae bK (ak F (ah (aZ F (fun hc=>?_) (fun hc=>?_)))))
    ·have tZ:b.r.e[j2].op=5:=by omega
     refine aL ?_
     exact⟨(by exact Sub.rf),⟨F,F,F,F,F,F,F,F,F,F,F,F,F,F,F,F,F,(au Value.bool (decide_eq_decide.2 (by omega))),trivial⟩⟩
    have vZ: ¬b.r.e[j2].op=5:=by omega
    refine bg (ae bK (ak F (ah ?_)))
    exact⟨(by exact Sub.rf),⟨F,F,F,F,F,F,F,F,F,F,F,F,F,F,F,F,F,(au Value.bool (decide_eq_decide.2 (by omega))),trivial⟩⟩
   rintro ρ O ⟨hS,hH⟩
   obtain⟨gA,rfl⟩:=hH.elim
   clear hH
   refine dc hS ?_
   refine aZ F (fun hc=>?_) (fun hc=>?_)
   ·refine bg ?_
    refine ae (bt dt bF) (ae (bq 0 ey) (ai F (ae (jx F F (by omega)) (ae (bt dt bF) (ae (bq 0 ey) (ai F (ae (jx F F (by omega)) (ae (bt dt bF) (aq (cq (vs:=[(vI (b.r.e[j2].a+(((a.r.e.take j1).map (eB 0)).length:Int)))]) 0 bF ?_))))))))))
    refine ae (bt dt bF) (aq (cq (vs:=[(vI (b.r.e[j2].b+(((a.r.e.take j1).map (eB 0)).length:Int)))]) 0 bF ?_))
    refine ah ?_
    exact⟨(by first|(rw[mZ (by omega)];exact Sub.rf)|(rw[m_ (by omega)];exact Sub.rf)|(rw[pO (by omega) (by omega)];exact Sub.rf)),(.of F)⟩
   refine aL ?_
   exact⟨(by first|(rw[mZ (by omega)];exact Sub.rf)|(rw[m_ (by omega)];exact Sub.rf)|(rw[pO (by omega) (by omega)];exact Sub.rf)),(.of F)⟩
  rintro ρ O ⟨hS,hH⟩
  obtain⟨gA,rfl⟩:=hH.elim
  clear hH
  refine dc hS ?_
  refine bg (ai F (ae (eN 0 dt cJ) (aq (cK (m:=1) (parts:=[(0,_)]) (cs:=[.int .u8 (((eB (((a.r.e.take j1).map (eB 0)).length) b.r.e[j2]).op:Nat):Int),.int .u8 (((eB (((a.r.e.take j1).map (eB 0)).length) b.r.e[j2]).p:Nat):Int),.int .u8 (((eB (((a.r.e.take j1).map (eB 0)).length) b.r.e[j2]).n:Nat):Int),vI (eB (((a.r.e.take j1).map (eB 0)).length) b.r.e[j2]).a,vI (eB (((a.r.e.take j1).map (eB 0)).length) b.r.e[j2]).b]) dR cJ (by decide) (by kernel_rfl) F (fun xa=>?_)))))
  refine aq (dq 3 dR dR cJ F F F F (by rw[cB]) (by decide) (Src.row (j:=0) F (by simp)) (by simp[fF]) (by simp only[du,aP,ar,cw];omega) (by decide) (by decide) (fun zr qK=>?_))
  refine ak F (ah (bg (ae (dr (a:=j2) (b:=1) F F (by omega)) (ai F (ah ?_)))))
  exact⟨j2+1,by omega,[oI z8 69 b.cells,av zr qK 72 5 ((bQ (((a.r.e.take j1).map (eB 0))++(b.r.e.take j2).map (eB (((a.r.e.take j1).map (eB 0)).length))))++[.int .u8 (((eB (((a.r.e.take j1).map (eB 0)).length) b.r.e[j2]).op:Nat):Int),.int .u8 (((eB (((a.r.e.take j1).map (eB 0)).length) b.r.e[j2]).p:Nat):Int),.int .u8 (((eB (((a.r.e.take j1).map (eB 0)).length) b.r.e[j2]).n:Nat):Int),vI (eB (((a.r.e.take j1).map (eB 0)).length) b.r.e[j2]).a,vI (eB (((a.r.e.take j1).map (eB 0)).length) b.r.e[j2]).b]),oI z3 69 a.cells,oI z2 153 [(vN ((((a.r.e.take j1).map (eB 0)).length)-1)),(vI 0)],oI z1 69 [(.int .u8 0),nS]],(by exact Sub.d (.d (.k (.k (.k (.k (.k .z))))))),zr,qK,by rw[jF iW,←a6,l8 ((((a.r.e.take j1).map (eB 0))++(b.r.e.take j2).map (eB (((a.r.e.take j1).map (eB 0)).length))))];rfl,by omega,⟨F,F,F,(au (fun n9=>Value.slice zr n9 qK) (show((((a.r.e.take j1).map (eB 0))++(b.r.e.take j2).map (eB (((a.r.e.take j1).map (eB 0)).length))).length)+1=((((a.r.e.take j1).map (eB 0))++(b.r.e.take (j2+1)).map (eB (((a.r.e.take j1).map (eB 0)).length)))).length by rw[jF iW,←a6];simp only[aP,bG,dl]<;>omega)),F,F,F,F,F,F,F,F,F,F,F,trivial⟩⟩
 have Ha: ¬j2<b.r.e.length:=by omega
 have OX:j2=b.r.e.length:=by omega
 have Lc:0<b.r.e.length:=Sc.pos C9
 have hqa:a.r.e.length≤64:=Cw.len
 have heB:(((a.r.e.take j1).map (eB 0))++(b.r.e.take j2).map (eB ((a.r.e.take j1).map (eB 0)).length))=a.r.e++b.r.e.map (eB a.r.e.length):=by rw[Xg,OX,List.take_length]
 have hqb:b.r.e.length≤64:=Sc.len
 have hlb:(((a.r.e.take j1).map (eB 0))++(b.r.e.take j2).map (eB ((a.r.e.take j1).map (eB 0)).length)).length=a.r.e.length+b.r.e.length:=by rw[aP,Lp,OX];simp
 refine cG ?_
 refine bg (ai F (ai F (ae (cQ dR) (ae (sO (a:=((((a.r.e.take j1).map (eB 0))++(b.r.e.take j2).map (eB (((a.r.e.take j1).map (eB 0)).length))).length)) (b:=1) F F (by omega) (by omega)) (ae (jJ (i:=1) tX bF F F (by decide)) (aq (cq (vs:=[(vI ((((((a.r.e.take j1).map (eB 0))++(b.r.e.take j2).map (eB (((a.r.e.take j1).map (eB 0)).length))).length)-1:Nat):Int))]) 3 bF ?_)))))))
 refine ah (bg (ae (bL (jx F F (by omega)) (v':=vI 2) F) (ai F (ah ?_))))
 refine oh [oI z8 69 b.cells,av ob kb 72 5 (bQ (((a.r.e.take j1).map (eB 0))++(b.r.e.take j2).map (eB (((a.r.e.take j1).map (eB 0)).length)))),oI z3 69 a.cells,oI z2 153 [(vN ((((a.r.e.take j1).map (eB 0)).length)-1)),(vI ((((((a.r.e.take j1).map (eB 0))++(b.r.e.take j2).map (eB (((a.r.e.take j1).map (eB 0)).length))).length)-1:Nat):Int))],oI z1 69 [(.int .u8 0),nS]] [(0,v8 op),(1,(.slice tb 2 tc)),(4,(.pointer (aD z1))),(5,(.slice ob ((((a.r.e.take j1).map (eB 0))++(b.r.e.take j2).map (eB (((a.r.e.take j1).map (eB 0)).length))).length) kb)),(6,(.pointer (aD z2))),(7,vI 1),(8,(.pointer (aD z8))),(9,vI (((a.r.e.take j1).map (eB 0)).length:Int)),(12,(.agg #[(vI 0),(vI 0)])),(13,(.slice tb 2 tc)),(14,vI 2),(15,vI 2)] F (.of F) (fun gA=>?_)
 refine T.round ?_
 refine aj (ae (aC cU (b':=false) F) (ah (aR (a8 ?_))))
 refine cG ?_
 refine aj (ai F (ai F (ae (jJ (i:=0) tX bF F F (by decide)) (ae (bq 3 ey) (ae (jJ (i:=1) tX bF F F (by decide)) (ae (bq 3 ey) (ae (cT (cs:=[v8 op,(.int .u8 0),(.int .u8 0),(vN ((((a.r.e.take j1).map (eB 0)).length)-1)),(vI ((((((a.r.e.take j1).map (eB 0))++(b.r.e.take j2).map (eB (((a.r.e.take j1).map (eB 0)).length))).length)-1:Nat):Int))]) nI cJ (by kernel_rfl)) (aq (cK (m:=1) (parts:=[(0,_)]) (cs:=[v8 op,(.int .u8 0),(.int .u8 0),(vN ((((a.r.e.take j1).map (eB 0)).length)-1)),(vI ((((((a.r.e.take j1).map (eB 0))++(b.r.e.take j2).map (eB (((a.r.e.take j1).map (eB 0)).length))).length)-1:Nat):Int))]) dR cJ (by decide) (by kernel_rfl) F (fun rL=>?_))))))))))
 refine aq (dq 2 dR dR cJ F F F F (by rw[cB]) (by decide) (Src.row (j:=0) F (by simp)) (by simp[fF]) (by simp only[du,aP,ar,cw];omega) (by decide) (by decide) (fun Cx FG=>?_))
 refine ak F (ah (aR (aj (ai F (ae (cQ dR) (ae ij (ah (aZ F (fun hc=>?_) (fun hc=>?_)))))))))
 ·have Lq:((((a.r.e.take j1).map (eB 0))++(b.r.e.take j2).map (eB (((a.r.e.take j1).map (eB 0)).length))).length)+1>64:=by omega
  have hL:=Lq
  refine aj (ae (cT (cs:=[.int .u8 3,nS]) qJ dh (by kernel_rfl)) (aq (cq (vs:=[.int .u8 3,nS]) 5 dh ?_)))
  refine ah (aM (aB ?_))
  refine cN (i:=5) results68 gh F dh F F F ?_
  exact⟨[],Sub.z,[],⟨3,⟨none,0,[]⟩⟩,F,F,(FF Ub C9 (by rw[heB]at hL;simpa using hL)).symm,.inl (.inr F)⟩
 have Lr: ¬((((a.r.e.take j1).map (eB 0))++(b.r.e.take j2).map (eB (((a.r.e.take j1).map (eB 0)).length))).length)+1>64:=by omega
 have hL:=Lr
 refine aL (aj (ai F (ae (cT (cs:=[(.int .u8 0),(.slice Cx (((((a.r.e.take j1).map (eB 0))++(b.r.e.take j2).map (eB (((a.r.e.take j1).map (eB 0)).length))).length)+1) FG)]) qJ dh (by kernel_rfl)) (aq (cq (vs:=[(.int .u8 0),(.slice Cx (((((a.r.e.take j1).map (eB 0))++(b.r.e.take j2).map (eB (((a.r.e.take j1).map (eB 0)).length))).length)+1) FG)]) 5 dh ?_)))))
 refine ah (aM (aB ?_))
 refine cN (i:=5) results68 gh F dh F F F ?_
 have Uc:=Jc (op:=op) Ub C9 (by rw[heB]at hL;simpa using hL)
 exact⟨[av Cx FG 72 5 ((bQ (((a.r.e.take j1).map (eB 0))++(b.r.e.take j2).map (eB (((a.r.e.take j1).map (eB 0)).length))))++[v8 op,(.int .u8 0),(.int .u8 0),(vN ((((a.r.e.take j1).map (eB 0)).length)-1)),(vI ((((((a.r.e.take j1).map (eB 0))++(b.r.e.take j2).map (eB (((a.r.e.take j1).map (eB 0)).length))).length)-1:Nat):Int))])],(by exact Sub.d (.d (.k .z))),[⟨Cx,FG,(oT op a.pp b.pp).2⟩],⟨0,⟨Cx,FG,(oT op a.pp b.pp).2⟩⟩,au (fun n9=>Value.agg #[.int .u8 0,.slice Cx n9 FG]) (show((((a.r.e.take j1).map (eB 0))++(b.r.e.take j2).map (eB (((a.r.e.take j1).map (eB 0)).length))).length)+1=((oT op a.pp b.pp).2).length by rw[Uc,heB];first|(simp;done)|(simp;omega)),au (fun z=>[av Cx FG 72 5 z]) (show(bQ (((a.r.e.take j1).map (eB 0))++(b.r.e.take j2).map (eB (((a.r.e.take j1).map (eB 0)).length))))++[v8 op,(.int .u8 0),(.int .u8 0),(vN ((((a.r.e.take j1).map (eB 0)).length)-1)),(vI ((((((a.r.e.take j1).map (eB 0))++(b.r.e.take j2).map (eB (((a.r.e.take j1).map (eB 0)).length))).length)-1:Nat):Int))]=bQ ((oT op a.pp b.pp).2) by rw[Uc,heB,l8];first|(simp[bQ,eC.cells];done)|(simp[bQ,eC.cells];omega)),by rw[Uc];rfl,.inl (.inl (List.mem_singleton.2 F))⟩
theorem oU {a b:PR} (h:a.k=1):By a.pp b.pp=b.pp:=aJ h
theorem oV {a b:PR} (h: ¬a.k=1) (h2:b.k=1∨(a.k≠3∧a.r.e=b.r.e)):By a.pp b.pp=a.pp:=(aA h).trans (aJ h2)
theorem FH {a b:PR} (h: ¬a.k=1) (h2: ¬(b.k=1∨(a.k≠3∧a.r.e=b.r.e))):By a.pp b.pp=oT 5 a.pp b.pp:=(aA h).trans (aA h2)
theorem oW {a b:PR} (h:a.k=1∨b.k=2):C5 a.pp b.pp=a.pp:=aJ h
theorem oX {a b:PR} (h: ¬(a.k=1∨b.k=2)) (h2:b.k=1∨a.k=2):C5 a.pp b.pp=b.pp:=(aA h).trans (aJ h2)
theorem FI {a b:PR} (h: ¬(a.k=1∨b.k=2)) (h2: ¬(b.k=1∨a.k=2)):C5 a.pp b.pp=oT 4 a.pp b.pp:=(aA h).trans (aA h2)
theorem AD {a:PR} (h:a.k=1∨a.k=2):Az a.pp=(2,[⟨2,0,0,0,0⟩]):=aJ h
theorem Je {a:PR} (h: ¬(a.k=1∨a.k=2)):Az a.pp=qH 8 a.pp:=aA h
theorem Ud (w:World) [dA prog w] (a b:PR) (ha:Sl w a.r.b (bQ a.r.e)) (Cw:fN a.pp) (hb:Sl w b.r.b (bQ b.r.e)) (Sc:fN b.pp):
  cn prog 40 [a.val,b.val] w (Xf 72 [a,b] (By a.pp b.pp)):=by
 refine aE func40 F ntmps40 F ?_
 refine aj (aq (dE (cs:=a.cells) (fun z1=>?_)))
 refine aq (dE (cs:=b.cells) (fun z2=>?_))
 refine aq (bs dh (fun z3=>?_))
 refine ah (aR (aV (aj (ae (bt gh oo) (ae (bq 2 u_) (ae bK (ak F (ah (aZ F (fun hc=>?_) (fun hc=>?_))))))))))
 ·have acv:a.k=1:=by omega
  refine aj (ae (eN 1 gh dh) (aq (cq (vs:=b.cells) 0 dh ?_)))
  refine ah (aM (aB ?_))
  refine cN (i:=0) results40 gh F dh F F F ?_
  exact⟨[],Sub.z,[],b,F,F,Eq.symm (by first|exact oU ‹_›|exact oV ‹_› hc|exact oW (by omega)|exact oX (by omega) (by omega)),.inr ⟨b,by simp,F⟩⟩
 have acw: ¬a.k=1:=by omega
 refine fg (fun ρ O=>Sub [oI z3 69 [(.int .u8 0),nS],oI z2 69 b.cells,oI z1 69 a.cells] O∧df [(0,a.val),(1,b.val),(2,(.pointer (aD z1))),(3,(.pointer (aD z2))),(4,(.pointer (aD z3))),(5,.bool (decide (((a.k:Nat):Int)=1))),(10,.bool (decide (b.k=1∨(a.k≠3∧a.r.e=b.r.e))))] ρ) ?_ ?_
 ·refine bg ?_
  refine ae (bt gh oo) (ae (bq 1 u_) ?_)
  by_cases h13:((b.k:Nat):Int)=1
  ·refine ae (aC bK (ax h13)) ?_
   refine ai F (aQ (aQ (aQ (aQ (aQ (aQ (aQ ?_)))))))
   refine aQ (aQ (aQ (ae cm (ak F (ah ?_)))))
   exact⟨(by exact Sub.rf),⟨F,F,F,F,F,F,(au Value.bool (ax (by exact .inl (by omega))).symm),trivial⟩⟩
  refine ae (aC bK (am h13)) (ai F (aF (bt gh oo) (aF (bq 2 u_) ?_)))
  by_cases h17:((a.k:Nat):Int)≠3
  ·refine aF (aC dW (ax h17)) ?_
   refine aF aI (aF (bt gh il) (aF (bq 2 dR) (aF (bt gh il) (aF (bq 1 dR) ?_))))
   refine gk F F F (bm X_ (aX fun w1 hI=>(haveI:=ef hI;PM w1 a.r.b b.r.b a.r.c b.r.c a.r.e b.r.e (hI.sl ha) (hI.sl hb) (by have:=Cw.len;have:a.r.e.length≤64:=this;omega))) ?_)
   rintro vr O' ⟨N,rfl,rfl,rfl⟩
   refine aF cm (ae bX (ak F (ah ?_)))
   exact⟨(by exact Sub.rf),⟨F,F,F,F,F,F,(au Value.bool (decide_eq_decide.2 ⟨fun h=>.inr ⟨by omega,h⟩,fun h=>h.elim (fun h=>by omega) (fun h=>h.2)⟩)),trivial⟩⟩
  refine aF (aC dW (am h17)) (aF aI (aQ (aQ (aQ (aQ (aQ (aF bX ?_)))))))
  refine ae bX (ak F (ah ?_))
  exact⟨(by exact Sub.rf),⟨F,F,F,F,F,F,(au Value.bool (am (by intro h9;rcases h9 with h9|h9<;>omega)).symm),trivial⟩⟩
 rintro ρ O ⟨hS,hH⟩
 obtain⟨gA,rfl⟩:=hH.elim
 clear hH
 refine dc hS ?_
 refine aZ F (fun hc=>?_) (fun hc=>?_)
 ·refine aR ?_
  refine bg (ae (eN 2 gh dh) (aq (cq (vs:=a.cells) 0 dh ?_)))
  refine ah (aM (aB ?_))
  refine cN (i:=0) results40 gh F dh F F F ?_
  exact⟨[],Sub.z,[],a,F,F,Eq.symm (by first|exact oU ‹_›|exact oV ‹_› hc|exact oW (by omega)|exact oX (by omega) (by omega)),.inr ⟨a,by simp,F⟩⟩
 let eh:List Value:=[v8 a.k,(.slice a.r.b a.r.e.length a.r.c),v8 b.k,(.slice b.r.b b.r.e.length b.r.c)]
 refine aL (aj (ae (eN 2 gh dh) (ae (eN 1 gh dh) (aq (cK (m:=2) (parts:=[(0,_),(1,_)]) (cs:=eh) mr dh (by decide) (by kernel_rfl) F (fun z4=>?_))))))
 refine aq (bm Lt (aX fun w1 hI=>(haveI:=ef hI;Ls w1 5 (aD z4) 2 a b (hI.gV (mG 0)) (hI.sl ha) Cw (hI.sl hb) Sc)) ?_)
 rintro vr O' ⟨N,rfl,qs,c,rfl,rfl,Fb,Kw⟩
 refine dM (O':=([av (aD z4) 2 69 2 eh,oI z3 69 [(.int .u8 0),nS],oI z2 69 b.cells,oI z1 69 a.cells]++(dy 72 qs))) (by exact gy [] _ (dy 72 qs)) ?_
 refine aq (cq (vs:=c.cells) 1 dh ?_)
 refine ah (aM (aB ?_))
 refine cN (i:=1) results40 gh F dh F F F ?_
 exact⟨dy 72 qs,(by exact Sub.d (.d (.d (.d .rf)))),qs,c,F,F,Fb.trans (FH ‹_› hc).symm,Kw⟩
theorem Sd (w:World) [dA prog w] (a b:PR) (ha:Sl w a.r.b (bQ a.r.e)) (Cw:fN a.pp) (hb:Sl w b.r.b (bQ b.r.e)) (Sc:fN b.pp):
  cn prog 41 [a.val,b.val] w (Xf 72 [a,b] (C5 a.pp b.pp)):=by
 refine aE func41 F ntmps41 F ?_
 refine aj (aq (dE (cs:=a.cells) (fun z1=>?_)))
 refine aq (dE (cs:=b.cells) (fun z2=>?_))
 refine aq (bs dh (fun z3=>?_))
 refine ah (aR (aV (aj (ae (bt gh oo) (ae (bq 2 u_) ?_)))))
 by_cases h8:((a.k:Nat):Int)=1
 ·refine ae (aC bK (ax h8)) ?_
  refine ai F (aQ (aQ (aQ (ae cm (ak F (ah ?_))))))
  refine b_ ?_
  refine aj (ae (eN 2 gh dh) (aq (cq (vs:=a.cells) 0 dh ?_)))
  refine ah (aM (aB ?_))
  refine cN (i:=0) results41 gh F dh F F F ?_
  exact⟨[],Sub.z,[],a,F,F,Eq.symm (by first|exact oU ‹_›|exact oV ‹_› hc|exact oW (by omega)|exact oX (by omega) (by omega)),.inr ⟨a,by simp,F⟩⟩
 refine ae (aC bK (am h8)) (ai F (aF (bt gh oo) (aF (bq 1 u_) ?_)))
 by_cases h12:((b.k:Nat):Int)=2
 ·refine aF (aC bK (ax h12)) ?_
  refine ae bX (ak F (ah ?_))
  refine b_ ?_
  refine aj (ae (eN 2 gh dh) (aq (cq (vs:=a.cells) 0 dh ?_)))
  refine ah (aM (aB ?_))
  refine cN (i:=0) results41 gh F dh F F F ?_
  exact⟨[],Sub.z,[],a,F,F,Eq.symm (by first|exact oU ‹_›|exact oV ‹_› hc|exact oW (by omega)|exact oX (by omega) (by omega)),.inr ⟨a,by simp,F⟩⟩
 refine aF (aC bK (am h12)) (ae bX (ak F (ah (a8 (aj (ae (bt gh oo) (ae (bq 1 u_) ?_)))))))
 by_cases h18:((b.k:Nat):Int)=1
 ·refine ae (aC bK (ax h18)) ?_
  refine ai F (aQ (aQ (aQ (ae cm (ak F (ah ?_))))))
  refine b_ ?_
  refine aj (ae (eN 1 gh dh) (aq (cq (vs:=b.cells) 0 dh ?_)))
  refine ah (aM (aB ?_))
  refine cN (i:=0) results41 gh F dh F F F ?_
  exact⟨[],Sub.z,[],b,F,F,Eq.symm (by first|exact oU ‹_›|exact oV ‹_› hc|exact oW (by omega)|exact oX (by omega) (by omega)),.inr ⟨b,by simp,F⟩⟩
 refine ae (aC bK (am h18)) (ai F (aF (bt gh oo) (aF (bq 2 u_) ?_)))
 by_cases h22:((a.k:Nat):Int)=2
 ·refine aF (aC bK (ax h22)) ?_
  refine ae bX (ak F (ah ?_))
  refine b_ ?_
  refine aj (ae (eN 1 gh dh) (aq (cq (vs:=b.cells) 0 dh ?_)))
  refine ah (aM (aB ?_))
  refine cN (i:=0) results41 gh F dh F F F ?_
  exact⟨[],Sub.z,[],b,F,F,Eq.symm (by first|exact oU ‹_›|exact oV ‹_› hc|exact oW (by omega)|exact oX (by omega) (by omega)),.inr ⟨b,by simp,F⟩⟩
 let fe:List Value:=[v8 a.k,(.slice a.r.b a.r.e.length a.r.c),v8 b.k,(.slice b.r.b b.r.e.length b.r.c)]
 refine aF (aC bK (am h22)) (ae bX (ak F (ah (a8 (aL (aj (ae (eN 2 gh dh) (ae (eN 1 gh dh) (aq (cK (m:=2) (parts:=[(0,_),(1,_)]) (cs:=fe) mr dh (by decide) (by kernel_rfl) F (fun z4=>?_)))))))))))
 refine aq (bm Lt (aX fun w1 hI=>(haveI:=ef hI;Ls w1 4 (aD z4) 2 a b (hI.gV (mG 0)) (hI.sl ha) Cw (hI.sl hb) Sc)) ?_)
 rintro vr O' ⟨N,rfl,qs,c,rfl,rfl,Fb,Kw⟩
 refine dM (O':=([av (aD z4) 2 69 2 fe,oI z3 69 [(.int .u8 0),nS],oI z2 69 b.cells,oI z1 69 a.cells]++(dy 72 qs))) (by exact gy [] _ (dy 72 qs)) ?_
 refine aq (cq (vs:=c.cells) 1 dh ?_)
 refine ah (aM (aB ?_))
 refine cN (i:=1) results41 gh F dh F F F ?_
 exact⟨dy 72 qs,(by exact Sub.d (.d (.d (.d .rf)))),qs,c,F,F,Fb.trans (FI (by omega) (by omega)).symm,Kw⟩
theorem Ue (w:World) [dA prog w] (a:PR) (ha:Sl w a.r.b (bQ a.r.e)) (Cw:fN a.pp):
  cn prog 42 [a.val] w (Xf 72 [a] (Az a.pp)):=by
 refine aE func42 F ntmps42 F ?_
 refine aj (aq (dE (cs:=a.cells) (fun z1=>?_)))
 refine aq (bs dh (fun z2=>?_))
 refine ah (aR (aj (ae (bt gh oo) (ae (bq 1 u_) ?_))))
 by_cases h5:((a.k:Nat):Int)=1
 ·refine ae (aC bK (ax h5)) ?_
  refine ai F (aQ (aQ (aQ (ae cm (ah ?_)))))
  refine b_ ?_
  refine aj (ae (cT (cs:=[.int .u8 2,(.int .u8 0),(.int .u8 0),(vI 0),(vI 0)]) nI cJ (by kernel_rfl)) (aq (bm C_ (aX fun w1 hI=>(haveI:=ef hI;x6 w1 2 ⟨2,0,0,0,0⟩)) ?_)))
  rintro vr O' ⟨N,rfl,qs,c,rfl,rfl,Fb,Kw⟩
  refine dM (O':=([oI z2 69 [(.int .u8 0),nS],oI z1 69 a.cells]++(dy 72 qs))) (by exact gy [] _ (dy 72 qs)) ?_
  refine aq (cq (vs:=c.cells) 0 dh ?_)
  refine ah (aM (aB ?_))
  refine cN (i:=0) results42 gh F dh F F F ?_
  exact⟨dy 72 qs,(by exact Sub.d (.d .rf)),qs,c,F,F,Fb.trans (AD (by omega)).symm,Kw.elim .inl (fun h=>absurd h (by simp))⟩
 refine ae (aC bK (am h5)) (ai F (aF (bt gh oo) (aF (bq 1 u_) ?_)))
 by_cases h9:((a.k:Nat):Int)=2
 ·refine aF (aC bK (ax h9)) ?_
  refine ae bX (ah ?_)
  refine b_ ?_
  refine aj (ae (cT (cs:=[.int .u8 2,(.int .u8 0),(.int .u8 0),(vI 0),(vI 0)]) nI cJ (by kernel_rfl)) (aq (bm C_ (aX fun w1 hI=>(haveI:=ef hI;x6 w1 2 ⟨2,0,0,0,0⟩)) ?_)))
  rintro vr O' ⟨N,rfl,qs,c,rfl,rfl,Fb,Kw⟩
  refine dM (O':=([oI z2 69 [(.int .u8 0),nS],oI z1 69 a.cells]++(dy 72 qs))) (by exact gy [] _ (dy 72 qs)) ?_
  refine aq (cq (vs:=c.cells) 0 dh ?_)
  refine ah (aM (aB ?_))
  refine cN (i:=0) results42 gh F dh F F F ?_
  exact⟨dy 72 qs,(by exact Sub.d (.d .rf)),qs,c,F,F,Fb.trans (AD (by omega)).symm,Kw.elim .inl (fun h=>absurd h (by simp))⟩
 refine aF (aC bK (am h9)) (ae bX (ah (a8 (aL (aj (ae (eN 1 gh dh) (aq (cK (m:=1) (parts:=[(0,_)]) (cs:=a.cells) mr dh (by decide) (by kernel_rfl) F (fun z3=>?_)))))))))
 refine aq (bm Lt (aX fun w1 hI=>(haveI:=ef hI;Ua w1 8 (aD z3) 1 a (hI.gV (mG 0)) (hI.sl ha) Cw)) ?_)
 rintro vr O' ⟨N,rfl,qs,c,rfl,rfl,Fb,Kw⟩
 refine dM (O':=([av (aD z3) 1 69 2 a.cells,oI z2 69 [(.int .u8 0),nS],oI z1 69 a.cells]++(dy 72 qs))) (by exact gy [] _ (dy 72 qs)) ?_
 refine aq (cq (vs:=c.cells) 1 dh ?_)
 refine ah (aM (aB ?_))
 refine cN (i:=1) results42 gh F dh F F F ?_
 exact⟨dy 72 qs,(by exact Sub.d (.d (.d .rf))),qs,c,F,F,Fb.trans (Je (by omega)).symm,Kw⟩
end Go.Proofs.YtgdbfideeeegmaaGreatDoor

namespace Go.Lx
open Go.RowKit Go.Proofs.YtgdbfideeeegmaaGreatDoor
def leX (L x:Nat):PP:=(0,[⟨3,x,L-1-x,0,0⟩])
def noX:PP:=(1,[⟨1,0,0,0,0⟩])
def emX:PP:=(2,[⟨2,0,0,0,0⟩])
def Jf (m:cV) (s t:Nat):Nat→PP
 |0=>if s=t then emX else noX
 |x+1=>if eS m s x=t then By (Jf m s t x) (leX (ez m) x)else Jf m s t x
def mu (m:cV):Nat→Nat→Nat→PP
 |0,s,t=>Jf m s t (ez m)
 |k+1,s,t=>By (mu m k s t) (C5 (C5 (mu m k s k) (Az (mu m k k k))) (mu m k k t))
def zO (m:cV):Nat→PP
 |0=>noX
 |t+1=>if dF m t=true then By (zO m t) (mu m m.next.length 0 t)else zO m t
def FJ (m:cV):PP:=zO m m.next.length
def PN (m:cV):Nat:=if(FJ m).1=3 then 4 else 0
def Lu (m:cV):List eC:=if(FJ m).1=3 then[]else(FJ m).2
theorem Da {L x:Nat} (h:x<L) (hL:L≤256):fN (leX L x):=.one (by decide) (by decide) (by omega) (by omega)
theorem x7:fN noX:=.one (by decide) (by decide) (by decide) (by decide)
theorem Lv:fN emX:=.one (by decide) (by decide) (by decide) (by decide)
theorem t_ {m:cV} (hL:ez m≤256) (s t:Nat): ∀x,x≤ez m→fN (Jf m s t x)
 |0,_=>by
  unfold Jf;split
  ·exact Lv
  ·exact x7
 |x+1,h=>by
  unfold Jf;split
  ·exact u7 (t_ hL s t x (by omega)) (Da (by omega) hL)
  ·exact t_ hL s t x (by omega)
theorem iT {m:cV} (hL:ez m≤256): ∀k s t,fN (mu m k s t)
 |0,s,t=>t_ hL s t _ (aS _)
 |k+1,s,t=>u7 (iT hL k s t) (rK (rK (iT hL k s k) (x5 (iT hL k k k))) (iT hL k k t))
theorem rM {m:cV} (hL:ez m≤256): ∀t,fN (zO m t)
 |0=>x7
 |t+1=>by
  unfold zO;split
  ·exact u7 (rM hL t) (iT hL _ _ _)
  ·exact rM hL t
structure MR where
 b:Option Addr
 c:Nat
 l:List PR
instance:Inhabited MR:=⟨⟨none,0,[]⟩⟩
abbrev MR.val (r:MR):Value:=.slice r.b r.l.length r.c
def MR.qt (T:TypeId) (r:MR):Item:=av r.b r.c T 2 (eL r.l)
def eO (T:TypeId) (R:List MR):List Item:=R.map (MR.qt T)
def k7 (R:List MR):List Value:=R.map MR.val
structure wN (l:List PR) (p:List ER) (g:Nat→PP):Prop where
 pp: ∀j (h:j<l.length),l[j].pp=g j
 po: ∀x∈l,gm p x.r
theorem wN.nil {p:List ER} {g:Nat→PP}:wN [] p g:=⟨fun j h=>absurd h (by simp),fun x hx=>by simp at hx⟩
theorem wN.mono {l:List PR} {p q:List ER} {g:Nat→PP} (h:wN l p g) (hq: ∀x∈p,x∈q):wN l q g:=⟨h.pp,fun x hx=>(h.po x hx).mono hq⟩
theorem wN.snoc {l:List PR} {p:List ER} {g:Nat→PP} (h:wN l p g) {c:PR} (hc:c.pp=g l.length) (hp:gm p c.r):wN (l++[c]) p g:=by
 refine⟨fun j hj=>?_,fun x hx=>?_⟩
 ·rw[aP,List.length_singleton]at hj
  rcases Nat.lt_or_ge j l.length with e|e
  ·rw[iy e];exact h.pp j e
  ·have:j=l.length:=by omega
   subst this
   rw[List.getElem_append_right (aS _)]
   simpa using hc
 ·rcases List.mem_append.1 hx with hx|hx
  ·exact h.po x hx
  ·rw[List.mem_singleton.1 hx];exact hp
structure qh (R:List MR) (p:List ER) (n:Nat) (f:Nat→Nat→PP):Prop where
 len: ∀r∈R,r.l.length=n
 row: ∀i (h:i<R.length),wN R[i].l p (f i)
theorem qh.nil {p:List ER} {n:Nat} {f:Nat→Nat→PP}:qh [] p n f:=⟨fun r hr=>by simp at hr,fun i h=>absurd h (by simp)⟩
theorem qh.mono {R:List MR} {p q:List ER} {n:Nat} {f:Nat→Nat→PP} (h:qh R p n f) (hq: ∀x∈p,x∈q):qh R q n f:=⟨h.len,fun i hi=>(h.row i hi).mono hq⟩
theorem qh.snoc {R:List MR} {p:List ER} {n:Nat} {f:Nat→Nat→PP} (h:qh R p n f) {r:MR} (hl:r.l.length=n) (hr:wN r.l p (f R.length)):qh (R++[r]) p n f:=by
 refine⟨fun x hx=>?_,fun i hi=>?_⟩
 ·rcases List.mem_append.1 hx with hx|hx
  ·exact h.len x hx
  ·rw[List.mem_singleton.1 hx];exact hl
 ·rw[aP,List.length_singleton]at hi
  rcases Nat.lt_or_ge i R.length with e|e
  ·rw[iy e];exact h.row i e
  ·have:i=R.length:=by omega
   subst this
   rw[List.getElem_append_right (aS _)]
   simpa using hr
def jh (R:List MR) (n:Nat):List Value:=k7 R++List.replicate (n-R.length) (.slice none 0 0)
theorem mv {R:List MR} {n:Nat} (h:R.length≤n):(jh R n).length=n:=by unfold jh k7;rw[aP,ar,jd];omega
theorem PO {R:List MR} {n:Nat} (h:R.length<n):(jh R n)[R.length]? =some (.slice none 0 0):=by
 unfold jh k7
 rw[bM (by simp),ar,fL,show n-R.length=(n-R.length-1)+1 by omega,List.replicate_succ];rfl
theorem ua {R:List MR} {n:Nat} (h:R.length<n) (r:MR):(jh R n).set R.length r.val=jh (R++[r]) n:=by
 unfold jh k7
 rw[List.set_append_right _ _ (by simp),ar,fL,show n-R.length=(n-(R++[r]).length)+1 by simp;omega,List.replicate_succ,bj]
 simp
theorem AE {R:List MR} {n:Nat} (h:R.length=n):jh R n=k7 R:=by unfold jh;rw[h,fL];simp
theorem oY {R:List MR} {i:Nat} (h:i<R.length):(k7 R)[i]? =some R[i].val:=by unfold k7;rw[bi,ap h];rfl
theorem oZ (R:List MR):(k7 R).length=R.length:=ar _
theorem Db (T:TypeId) (R S:List MR):eO T (R++S)=eO T R++eO T S:=bj
theorem kz {T:TypeId} {R:List MR} {i:Nat} (h:i<R.length):av R[i].b R[i].c T 2 (eL R[i].l)∈eO T R:=List.mem_map.2 ⟨_,aN h,F⟩
theorem Dc {R:List MR} {n:Nat} (h:R.length<n):jh R n=jh (R++[⟨none,0,[]⟩]) n:=by
 rw[←ua h]
 apply List.ext_getElem?
 intro i
 by_cases e:i=R.length
 ·subst e;rw[PO h,List.getElem?_set_self (by rw[mv (by omega)];exact h)];rfl
 ·rw[List.getElem?_set_ne (fun h=>e h.symm)]
theorem Dd {R:List MR} {n:Nat} (h:R.length<n) (r:MR):(jh (R++[r]) n)[R.length]? =some r.val:=by
 rw[←ua h,List.getElem?_set_self (by rw[mv (by omega)];exact h)]
theorem AF {R:List MR} {n:Nat} (h:R.length<n) (r r2:MR):(jh (R++[r]) n).set R.length r2.val=jh (R++[r2]) n:=by
 rw[←ua h,List.set_set,ua h]
theorem Lw {M:cV} {qs:List Rec} (h:nums qs=M.next):qs.length=M.next.length:=by rw[←h];simp
theorem Bz {M:cV} {qs:List Rec} (h:nums qs=M.next) (hv:Val M) {s:Nat} (hs:s<qs.length):qs[s].xs.length=ez M:=by
 have h1:qs[s].xs∈M.next:=by rw[←h];exact List.mem_map.2 ⟨_,aN hs,F⟩
 exact hv.len _ h1
theorem Ya {M:cV} {qs:List Rec} (h:nums qs=M.next) (hv:Val M) {s:Nat} (hs:s<qs.length) {x:Nat} (hx:x<ez M):(ints qs[s].xs)[x]? =some (.int .i64 ((eS M s x:Nat):Int)):=by
 obtain⟨_,h1,h2,h3⟩:=hv.gT (o:=s) (by rw[←Lw h];exact hs) hx
 have h4:qs[s].xs=M.next[s]:=by
  have:(nums qs)[s]? =M.next[s]? :=by rw[h]
  rw[ap h1,bi,ap hs]at this
  exact db this
 rw[h4,gL h2,h3]
theorem Ly {qs:List Rec} {s:Nat} (hs:s<qs.length):(dG qs)[s]? =some (.slice qs[s].b qs[s].xs.length qs[s].c):=by
 show(qs.map Rec.val)[s]? =_
 rw[bi,ap hs];rfl
theorem LA {qs:List Rec} {s:Nat} (hs:s<qs.length):av qs[s].b qs[s].c 3 1 (ints qs[s].xs)∈cg 3 qs:=List.mem_map.2 ⟨_,aN hs,F⟩
theorem nJ {l:List PR} {i:Nat} {a:PR} (h:l[i]? =some a): ∀j (hj:j<a.cells.length),(eL l)[i*2+j]? =some a.cells[j]:=by
 obtain⟨hi,rfl⟩:=List.getElem?_eq_some_iff.1 h
 exact om hi
theorem qh.at {R:List MR} {p:List ER} {n:Nat} {f:Nat→Nat→PP} (h:qh R p n f) {i j:Nat} (hi:i<R.length) (hj:j<n): ∃a:PR,R[i].l[j]? =some a∧a.pp=f i j∧gm p a.r:=by
 have hl:=h.len _ (aN hi)
 have h1:=h.row i hi
 have sP:j<R[i].l.length:=by omega
 exact⟨R[i].l[j],ap sP,h1.pp j sP,h1.po _ (aN sP)⟩
theorem ly {T:TypeId} {q p:List ER} {O:List Item} (h1: ∀it∈dy T q,it∈O) (h2: ∀it∈dy T p,it∈O): ∀it∈dy T (q++p),it∈O:=fun it fO=>by
 rw[qI]at fO
 exact(List.mem_append.1 fO).elim (h1 it) (h2 it)
theorem v7 {p q:List ER} {a:List PR} {c:PR} (h:gm q c.r∨ ∃x∈a,c.r=x.r) (ha: ∀x∈a,gm p x.r):gm (q++p) c.r:=by
 rcases h with h|⟨x,hx,e⟩
 ·exact h.mono fun y hy=>aO _ hy
 ·rw[e];exact(ha x hx).mono fun y hy=>ao _ hy
theorem v_ (A B E X Y:List Item) (c:Item) (h:Sub (A++[c]) B):Sub (A++(E++((X++[c])++Y))) (B++(E++(X++Y))):=by
 obtain⟨l,h1,h2⟩:=h
 refine⟨l++(E++(X++Y)),?_,h2.append (aY _)⟩
 refine List.Perm.trans ?_ (h1.append_right (E++(X++Y)))
 rw[a6 X,a6 A]
 refine List.Perm.append_left A ?_
 rw[←a6 E X,←a6 E X,List.singleton_append]
 exact List.perm_middle
theorem De (A B E X Y Z:List Item) (h:Sub A B):Sub (A++(E++(X++Z))) (B++(E++(X++(Y++Z)))):=by
 obtain⟨l,h1,h2⟩:=h
 exact⟨l++(E++(X++Z)),h1.append_right _,h2.append ((aY E).append ((aY X).append (List.sublist_append_right Y Z)))⟩
def Ch (S:List UInt8) (i c:Nat):Prop:=S[i]?.map UInt8.toNat=some c
theorem Ch.lt {S:List UInt8} {i c:Nat} (h:Ch S i c):i<S.length:=by
 unfold Ch at h
 rcases Nat.lt_or_ge i S.length with e|e
 ·exact e
 ·rw[bY e]at h;cases h
section
variable {P:Program} {base:World} {ρ:Env} {O:List Item} {dst:Option Nat} {t:TypeId} {p:String} {af:Array Edge} {g:Option (Nat×Bool)}
theorem Yq {x y:Operand} {T:TypeId} {S:List UInt8} {i c:Nat} (hu:P.underlying T=some .string) (hx:ev ρ x=str S) (hy:ev ρ y=.int .i64 (i:Int)) (h:Ch S i c):QT P base ⟨dst,.index T x y,t,p,af,g⟩ ρ O (.int .u8 (c:Int)):=fun w _=>by
 obtain⟨b,hb,rfl⟩:=Option.map_eq_some_iff.1 h
 have Fz:(ByteArray.mk S.toArray)[i]? =some b:=by
  have hl:=h.lt
  rw[show(ByteArray.mk S.toArray)[i]? =some ((ByteArray.mk S.toArray)[i]'hl)from dif_pos hl]
  rw[ap hl]at hb
  exact hb
 have P2:ev ρ x=.string ⟨S.toArray⟩:=hx
 simp[execOp,P2,hy,Instr.index,asIntOf,bw hu,Fz]
end
end Go.Lx

namespace Go.Proofs.YtgdbfideeeegmaaGreatDoor
open Go.Lx Go.RowKit _root_.Go.Proofs.Tryz
theorem ub (base:World) [dA prog base] (rb:Nat) (S:List UInt8) (qO:S.length≤4096) (ia c n lc:Nat) (lb:Option Addr) (h:Ch S ia c):
  cj prog base 132 [(.pointer (aD rb))] [oI rb 149 [(str S),vN ia,(.slice lb n lc),vI 0]] (fun v O'=>v=v8 c∧O'=[oI rb 149 [(str S),vN ia,(.slice lb n lc),vI 0]]):=by
 refine aE func132 F ntmps132 F ?_
 have gw:=h.lt
 refine aj (ak F (ah (aR (aj (ai F (ae a_ (ae (bt gi js) (ae (bq 0 o6) (ae (aC dW (am (by decide))) (ah (a8 (aL (aR (aR ?_))))))))))))))
 refine fS [(0,0),(1,0),(2,0),(3,0),(4,0),(5,0),(6,0),(7,0),(8,0),(9,0)] ?_
 refine aw F aI (aw F a_ (aw F (bt gi bF) (aw F (bq 0 ey) (aw F aI (aw F a_ (aw F (bt gi FK) (aw F (bq 0 wh) (aw F (xR wh F) (aw F (aC bK (am (by omega))) ?_)))))))))
 refine cA ?_
 refine a8 (aL (aR ?_))
 refine fS [(0,0),(1,0),(2,0),(3,0),(4,0),(5,0),(6,0),(7,0),(8,0),(9,0)] ?_
 refine aw F aI (aw F a_ (aw F (bt gi FK) (aw F (bq 0 wh) (aw F aI (aw F a_ (aw F (bt gi bF) (aw F (bq 0 ey) (aw F (Yq (i:=ia) wh F F h) (aw F cx ?_)))))))))
 refine cA ?_
 refine aM ?_
 refine aT (v8 c) results132 F ?_
 exact⟨F,F⟩
theorem P3 (base:World) [dA prog base] (rb:Nat) (S:List UInt8) (qO:S.length≤4096) (ia c n lc:Nat) (lb:Option Addr) (h:Ch S ia c):
  cj prog base 189 [(.pointer (aD rb)),v8 c] [oI rb 149 [(str S),vN ia,(.slice lb n lc),vI 0]] (fun v O'=>v=.tuple #[]∧O'=[oI rb 149 [(str S),vN (ia+1),(.slice lb n lc),vI 0]]):=by
 refine aE func189 F ntmps189 F ?_
 have gw:=h.lt
 refine aj (ai F ?_)
 have LI:=(cj.under (A:=[oI rb 149 [(str S),vN ia,(.slice lb n lc),vI 0]]) (B:=[]) (O:=[oI rb 149 [(str S),vN ia,(.slice lb n lc),vI 0]]) (ub base rb S qO ia c n lc lb h) (by exact Sub.rf))
 refine aq (bm lz LI ?_)
 clear LI
 rintro vr O' ⟨A9,rfl,rfl,rfl⟩
 refine ak F (ah (aR (aj (ai F (ae a_ (ae (bt gi js) (ae (bq 0 o6) (ae (aC bK (ax (by decide))) (ai F (aF aI (aF aI (aF (aC dW (am (by omega))) (ae cm ?_)))))))))))))
 refine ah (a8 (aL (aj (ai F (ae a_ (ae (bt gi js) (ae (bq 0 o6) (ae (aC bK (ax (by decide))) (ah ?_)))))))))
 refine b_ ?_
 refine bg (ai F (ae a_ (ae (bt gi bF) (ae (bq 0 ey) (ae (dr (a:=ia) (b:=1) F F (by omega)) (ae a_ (ae (bt gi bF) (aq (cq (vs:=[(vN (ia+1))]) 0 bF ?_)))))))))
 refine ah ?_
 refine rG.zero results189 ?_
 exact⟨F,F⟩
theorem Hb (base:World) [dA prog base] (rb:Nat) (S:List UInt8) (ia lc:Nat) (lb:Option Addr) (l:List eC) (x:eC) (hl:l.length≤1000):
  cj prog base 133 [(.pointer (aD rb)),x.ag] [oI rb 149 [(str S),vN ia,(.slice lb l.length lc),vI 0],av lb lc 72 5 (bQ l)] (fun v O'=> ∃uS uT,v=vN l.length∧O'=[oI rb 149 [(str S),vN ia,(.slice uS ((l++[x]).length) uT),vI 0],av uS uT 72 5 (bQ (l++[x]))]):=by
 refine aE func133 F ntmps133 F ?_
 refine aj (aq (dE (cs:=x.cl) (fun z1=>?_)))
 refine ak F (ah (aR ?_))
 refine T.ds [oI z1 72 x.cl,oI rb 149 [(str S),vN ia,(.slice lb l.length lc),vI 0]] [(0,0),(1,0),(2,0),(3,0),(4,0),(5,0),(6,1),(7,1),(8,0),(9,0),(10,2)] (by exact Sub.k (.k .z)) ?_
 refine aw F aI (aw F aI (aw F a_ (aw F (bt gi il) (aw F (bq 1 dR) (aw F (eN 0 dt cJ) ?_)))))
 refine cH F F (cK (m:=1) (parts:=[(0,_)]) (cs:=x.cl) dR cJ (by decide) (by kernel_rfl) F (fun z2=>⟨by exact Sub.d (.k (.k .z)),?_⟩))
 refine cH F F (dq 3 dR dR cJ F F F F (by rw[cB]) (by decide) (Src.row (j:=0) F (by simp)) (by simp[fF]) (by omega) (by decide) (by decide) (fun z3 oK=>⟨by exact Sub.d (.k (.k .z)),?_⟩))
 refine aw F a_ (aw F (bt gi il) ?_)
 refine cy F F (cq (vs:=[(.slice z3 (l.length+1) oK)]) 2 il ?_)
 refine cA ?_
 refine aj (ai F (ae a_ (ae (bt gi il) (ae (bq 2 dR) (ae (cQ dR) (ae (sO (a:=(l.length+1)) (b:=1) F F (by omega) (by omega)) (ak F (ah (aM (aB ?_))))))))))
 refine aT (vN ((l.length+1)-1)) results133 F ?_
 exact⟨[oI rb 149 [(str S),vN ia,(.slice z3 (l.length+1) oK),vI 0],av z3 oK 72 5 ((bQ l)++x.cl)],(by exact Sub.d (.d (.k (.k .z)))),z3,oK,by simp,by rw[l8,aP];rfl⟩
theorem Yr (base:World) [dA prog base] (rb:Nat) (S:List UInt8) (qO:S.length≤4096) (ia n lc:Nat) (lb:Option Addr) (h1:Ch S ia 42) (h2:Ch S (ia+1) 93):
  cj prog base 134 [(.pointer (aD rb))] [oI rb 149 [(str S),vN ia,(.slice lb n lc),vI 0]] (fun v O'=>v=.agg #[v8 0,v8 0]∧O'=[oI rb 149 [(str S),vN (ia+1+1),(.slice lb n lc),vI 0]]):=by
 refine aE func134 F ntmps134 F ?_
 have gw:=h1.lt;have l9:=h2.lt
 refine aj (aq (bs ji (fun z1=>?_)))
 refine ah (aj (ae (cT rN ji F) (aq (bs ji (fun z2=>?_)))))
 refine aq (cq (vs:=[(.int .u8 0),(.int .u8 0)]) 0 ji ?_)
 refine ak F (ah (aR (aj (ai F ?_))))
 have qj:=(cj.under (A:=[oI rb 149 [(str S),vN ia,(.slice lb n lc),vI 0]]) (B:=[oI z2 129 [(.int .u8 0),(.int .u8 0)],oI z1 129 [(.int .u8 0),(.int .u8 0)]]) (O:=[oI z2 129 [(.int .u8 0),(.int .u8 0)],oI z1 129 [(.int .u8 0),(.int .u8 0)],oI rb 149 [(str S),vN ia,(.slice lb n lc),vI 0]]) (ub base rb S qO ia 42 n lc lb h1) (by exact Sub.dP [oI z2 129 [(.int .u8 0),(.int .u8 0)],oI z1 129 [(.int .u8 0),(.int .u8 0)]] _ (.k (.k .z))))
 refine aq (bm lz qj ?_)
 clear qj
 rintro vr O' ⟨A9,rfl,rfl,rfl⟩
 refine ae (aC bK (ax (by decide))) (ah ?_)
 refine b_ ?_
 refine aj (ai F (ae a_ (ae (bt gi bF) (ae (bq 0 ey) (ae (dr (a:=ia) (b:=1) F F (by omega)) (ae a_ (ae (bt gi bF) (aq (cq (vs:=[(vN (ia+1))]) 0 bF ?_)))))))))
 refine ah (aj (ai F ?_))
 have qP:=(cj.under (A:=[oI rb 149 [(str S),(vN (ia+1)),(.slice lb n lc),vI 0]]) (B:=[oI z2 129 [(.int .u8 0),(.int .u8 0)],oI z1 129 [(.int .u8 0),(.int .u8 0)]]) (O:=[oI rb 149 [(str S),(vN (ia+1)),(.slice lb n lc),vI 0],oI z2 129 [(.int .u8 0),(.int .u8 0)],oI z1 129 [(.int .u8 0),(.int .u8 0)]]) (P3 base rb S qO (ia+1) 93 n lc lb h2) (by exact Sub.rf))
 refine aq (bm BC qP ?_)
 clear qP
 rintro vr O' ⟨A9,rfl,rfl,rfl⟩
 refine ah (aj (ae (eN 1 lA ji) (aq (cq (vs:=[(.int .u8 0),(.int .u8 0)]) 2 ji ?_))))
 refine ah (aM (aB ?_))
 refine cN (i:=2) results134 lA F ji F F F ?_
 exact⟨[oI rb 149 [(str S),vN (ia+1+1),(.slice lb n lc),vI 0]],(by exact Sub.k .z),F,F⟩
theorem Ys (base:World) [dA prog base] (rb:Nat) (S:List UInt8) (qO:S.length≤4096) (ia k n lc:Nat) (lb:Option Addr) (hk:k<6) (h1:Ch S ia (97+k)) (h2:Ch S (ia+1) 93):
  cj prog base 134 [(.pointer (aD rb))] [oI rb 149 [(str S),vN ia,(.slice lb n lc),vI 0]] (fun v O'=>v=.agg #[v8 (0|||1*2^k),v8 0]∧O'=[oI rb 149 [(str S),vN (ia+1+1),(.slice lb n lc),vI 0]]):=by
 refine aE func134 F ntmps134 F ?_
 have gw:=h1.lt;have l9:=h2.lt
 have hpk:2^k<256:=Nat.pow_lt_pow_right (a:=2) (by decide) (show k<8 by omega)
 refine aj (aq (bs ji (fun z1=>?_)))
 refine ah (aj (ae (cT rN ji F) (aq (bs ji (fun z2=>?_)))))
 refine aq (cq (vs:=[(.int .u8 0),(.int .u8 0)]) 0 ji ?_)
 refine ak F (ah (aR (aj (ai F ?_))))
 have qj:=(cj.under (A:=[oI rb 149 [(str S),vN ia,(.slice lb n lc),vI 0]]) (B:=[oI z2 129 [(.int .u8 0),(.int .u8 0)],oI z1 129 [(.int .u8 0),(.int .u8 0)]]) (O:=[oI z2 129 [(.int .u8 0),(.int .u8 0)],oI z1 129 [(.int .u8 0),(.int .u8 0)],oI rb 149 [(str S),vN ia,(.slice lb n lc),vI 0]]) (ub base rb S qO ia (97+k) n lc lb h1) (by exact Sub.dP [oI z2 129 [(.int .u8 0),(.int .u8 0)],oI z1 129 [(.int .u8 0),(.int .u8 0)]] _ (.k (.k .z))))
 refine aq (bm lz qj ?_)
 clear qj
 rintro vr O' ⟨A9,rfl,rfl,rfl⟩
 refine ae (aC bK (am (by omega))) (ah (a8 (aL (aR (aV ?_)))))
 refine pM 3 (T.round ?_)
 refine aR (aj (ai F (ae a_ (ae (bt gi js) (ae (bq 0 o6) (ae (aC bK (ax (by decide))) (ah ?_)))))))
 refine b_ ?_
 refine aL (aV (aj (ai F ?_)))
 have uc:=(cj.under (A:=[oI rb 149 [(str S),vN ia,(.slice lb n lc),vI 0]]) (B:=[oI z2 129 [(.int .u8 0),(.int .u8 0)],oI z1 129 [(.int .u8 0),(.int .u8 0)]]) (O:=[oI rb 149 [(str S),vN ia,(.slice lb n lc),vI 0],oI z2 129 [(.int .u8 0),(.int .u8 0)],oI z1 129 [(.int .u8 0),(.int .u8 0)]]) (ub base rb S qO ia (97+k) n lc lb h1) (by exact Sub.rf))
 refine aq (bm lz uc ?_)
 clear uc
 rintro vr O' ⟨A9,rfl,rfl,rfl⟩
 refine ae (aC bK (am (by omega))) (ai F (aQ (aQ (ae bX (ak F (ah (aR (aj (ai F (ah (a8 ?_)))))))))))
 refine aL (aj (ai F ?_))
 have x_:=(cj.under (A:=[oI rb 149 [(str S),vN ia,(.slice lb n lc),vI 0]]) (B:=[oI z2 129 [(.int .u8 0),(.int .u8 0)],oI z1 129 [(.int .u8 0),(.int .u8 0)]]) (O:=[oI rb 149 [(str S),vN ia,(.slice lb n lc),vI 0],oI z2 129 [(.int .u8 0),(.int .u8 0)],oI z1 129 [(.int .u8 0),(.int .u8 0)]]) (ub base rb S qO ia (97+k) n lc lb h1) (by exact Sub.rf))
 refine aq (bm lz x_ ?_)
 clear x_
 rintro vr O' ⟨A9,rfl,rfl,rfl⟩
 refine ak F (ah (aR (aj (ai F (ae (aC bK (am (by omega))) (ai F (aQ (aQ (ae bX (ai F (aQ (aQ ?_))))))))))))
 refine ae bX (ah (a8 (aL (aR (aj (ai F (ae a_ (ae (bt gi js) (ae (bq 0 o6) (ae (aC bK (ax (by decide))) (ai F (aF aI (aF (aC cU (am (by omega))) ?_)))))))))))))
 refine aF aI (aF aI (aF (aC ij (am (by omega))) (aF bX (aF aI (aF aI (aF (bL (Ll (a:=(97+k)) (b:=97) .u8 F F (by show _<256;omega) (by omega)) (v':=v8 k) (au (Value.int .u8) (by omega))) (aF (fU gH ey F (by first|rfl|exact gD ⟨by omega,by omega⟩|exact qF (by omega)|exact og (by omega))) ?_)))))))
 refine aF aI (aF (aC GY (am (by omega))) (aF bX (ae cm (ah (a8 (aL (aR (aj (ai F (ae a_ (ae (bt gi js) (ae (bq 0 o6) ?_))))))))))))
 refine ae (aC dW (am (by decide))) (ah (a8 (aL (aj (ai F (ae (bL (Ll (a:=(97+k)) (b:=97) .u8 F F (by show _<256;omega) (by omega)) (v':=v8 k) (au (Value.int .u8) (by omega))) (ae (fU gH ey F (by first|rfl|exact gD ⟨by omega,by omega⟩|exact qF (by omega)|exact og (by omega))) (ak F (ah (aR (aj (ai F (ah ?_)))))))))))))
 refine a8 (bg (ae (bt lA eD) (ae (bq 1 gH) (ai F (ae (fU ey Si F (by first|rfl|exact gD ⟨by omega,by omega⟩|exact qF (by omega)|exact og (by omega))) (ae (T6 (a:=1) (b:=k) .u8 F F (by show _≤8;omega) (by show _<256;omega)) (ae (T5 (a:=0) (b:=(1*2^k)) .u8 F F (by show _<256;omega) (by show _<256;omega)) (ae (bt lA eD) (aq (cq (vs:=[(v8 (0|||(1*2^k)))]) 1 eD ?_))))))))))
 refine ah (bg (ai F (ae a_ (ae (bt gi bF) (ae (bq 0 ey) (ae (dr (a:=ia) (b:=1) F F (by omega)) (ae a_ (ae (bt gi bF) (aq (cq (vs:=[(vN (ia+1))]) 0 bF ?_))))))))))
 refine ah ?_
 refine oh [oI rb 149 [(str S),(vN (ia+1)),(.slice lb n lc),vI 0],oI z2 129 [(v8 (0|||(1*2^k))),(.int .u8 0)],oI z1 129 [(.int .u8 0),(.int .u8 0)]] [(0,(.pointer (aD rb))),(2,(.pointer (aD z1))),(3,(.pointer (aD z2))),(4,vN k),(5,.bool false),(6,v8 (97+k)),(7,(.agg #[(.int .u8 0),(.int .u8 0)])),(8,(.pointer (aD rb))),(9,v8 (97+k)),(10,.bool false)] F (.of F) (fun gA=>?_)
 refine T.round ?_
 refine aR (aj (ai F (ae a_ (ae (bt gi js) (ae (bq 0 o6) (ae (aC bK (ax (by decide))) (ah ?_)))))))
 refine b_ ?_
 refine aL (aV (aj (ai F ?_)))
 have uc:=(cj.under (A:=[oI rb 149 [(str S),(vN (ia+1)),(.slice lb n lc),vI 0]]) (B:=[oI z2 129 [(v8 (0|||(1*2^k))),(.int .u8 0)],oI z1 129 [(.int .u8 0),(.int .u8 0)]]) (O:=[oI rb 149 [(str S),(vN (ia+1)),(.slice lb n lc),vI 0],oI z2 129 [(v8 (0|||(1*2^k))),(.int .u8 0)],oI z1 129 [(.int .u8 0),(.int .u8 0)]]) (ub base rb S qO (ia+1) 93 n lc lb h2) (by exact Sub.rf))
 refine aq (bm lz uc ?_)
 clear uc
 rintro vr O' ⟨A9,rfl,rfl,rfl⟩
 refine ae (aC bK (am (by omega))) (ai F (aQ (aQ (ae bX (ak F (ah (aR (aj (ai F (ah (a8 ?_)))))))))))
 refine aL (aj (ai F ?_))
 have x_:=(cj.under (A:=[oI rb 149 [(str S),(vN (ia+1)),(.slice lb n lc),vI 0]]) (B:=[oI z2 129 [(v8 (0|||(1*2^k))),(.int .u8 0)],oI z1 129 [(.int .u8 0),(.int .u8 0)]]) (O:=[oI rb 149 [(str S),(vN (ia+1)),(.slice lb n lc),vI 0],oI z2 129 [(v8 (0|||(1*2^k))),(.int .u8 0)],oI z1 129 [(.int .u8 0),(.int .u8 0)]]) (ub base rb S qO (ia+1) 93 n lc lb h2) (by exact Sub.rf))
 refine aq (bm lz x_ ?_)
 clear x_
 rintro vr O' ⟨A9,rfl,rfl,rfl⟩
 refine ak F (ah (aR (aj (ai F (ae (aC bK (ax (by decide))) (ai F (aF aI (aF iV (ae cm (ai F (aF aI (aF (aC kV (ax (by omega))) ?_))))))))))))
 refine ae cm (ah ?_)
 refine b_ ?_
 refine aj (ai F (ae a_ (ae (bt gi bF) (ae (bq 0 ey) (ae (dr (a:=(ia+1)) (b:=1) F F (by omega)) (ae a_ (ae (bt gi bF) (aq (cq (vs:=[(vN ((ia+1)+1))]) 0 bF ?_)))))))))
 refine ah (aj (ae (eN 1 lA ji) (aq (cq (vs:=[(v8 (0|||(1*2^k))),(.int .u8 0)]) 2 ji ?_))))
 refine ah (aM (aB ?_))
 refine cN (i:=2) results134 lA F ji F F F ?_
 exact⟨[oI rb 149 [(str S),(vN ((ia+1)+1)),(.slice lb n lc),vI 0]],(by exact Sub.k .z),F,F⟩
def uU (f:FuncId) (S:List UInt8) (ia:Nat) (l:List eC) (i ib:Nat) (m:List eC):Prop:= ∀(base:World) [dA prog base] (rb:Nat) (lb:Option Addr) (lc:Nat),cj prog base f [(.pointer (aD rb))] [dY rb (.cells (List.toArray [(str S),vN ia,(.slice lb l.length lc),vI 0]) 149 (0,0)),av lb lc 72 5 (bQ l)] (fun v O'=> ∃uS uT,v=vN i∧O'=[dY rb (.cells (List.toArray [(str S),vN ib,(.slice uS m.length uT),vI 0]) 149 (0,0)),av uS uT 72 5 (bQ m)])
theorem Sj {S:List UInt8} (qO:S.length≤4096) {ia pp:Nat} {l:List eC} (hl:l.length≤1000) (h1:Ch S ia 91) (hcu: ∀(base:World) [dA prog base] (rb:Nat) (lb:Option Addr) (n lc:Nat),cj prog base 134 [(.pointer (aD rb))] [oI rb 149 [(str S),vN (ia+1),(.slice lb n lc),vI 0]] (fun v O'=>v=.agg #[v8 pp,v8 0]∧O'=[oI rb 149 [(str S),vN (ia+3),(.slice lb n lc),vI 0]])):uU 96 S ia l l.length (ia+3) (l++[(⟨3,pp,0,0,0⟩:eC)]):=by
 intro base _ rb lb lc
 refine aE func96 F ntmps96 F ?_
 have gw:=h1.lt
 refine aj (ak F (ah (aj (ai F ?_))))
 let eh:Lx.Item:=av lb lc 72 5 (bQ l)
 let fe:Value:=(.slice lb l.length lc)
 have LI:=(cj.under (A:=[oI rb 149 [(str S),vN ia,fe,vI 0]]) (B:=[eh]) (O:=[oI rb 149 [(str S),vN ia,fe,vI 0],eh]) (ub base rb S qO ia 91 l.length lc lb h1) (by exact Sub.rf))
 refine aq (bm lz LI ?_)
 clear LI
 rintro vr O' ⟨A9,rfl,rfl,rfl⟩
 refine ak F (ah (aR (aj (ai F (ae a_ (ae (bt gi js) (ae (bq 0 o6) (ae (aC dW (am (by decide))) (ah (a8 (aL (aj (ai F (ae a_ (ae (bt gi bF) (ae (bq 0 ey) ?_))))))))))))))))
 refine ae (dr (a:=ia) (b:=1) F F (by omega)) (ae a_ (ae (bt gi bF) (aq (cq (vs:=[(vN (ia+1))]) 0 bF ?_))))
 refine ah (aR (aj (ai F (ah (aV (aj (ae (aC bK (am (by decide))) (ak F (ah (a8 (aj (ae (aC bK (am (by decide))) (ak F ?_)))))))))))))
 refine ah (a8 (aj (ae (aC bK (ax (by decide))) (ak F (ah ?_)))))
 refine b_ ?_
 refine aj (ai F ?_)
 have ya:=(cj.under (A:=[oI rb 149 [(str S),(vN (ia+1)),fe,vI 0]]) (B:=[eh]) (O:=[oI rb 149 [(str S),(vN (ia+1)),fe,vI 0],eh]) (hcu base rb lb l.length lc) (by exact Sub.rf))
 refine aq (bm Uh ya ?_)
 clear ya
 rintro vr O' ⟨A9,rfl,rfl,rfl⟩
 refine aq (bs ji (fun z1=>?_))
 refine aq (cq (vs:=[v8 pp,v8 0]) 0 ji ?_)
 refine ah (aj (ai F (ae (bt lA eD) (ae (bq 0 gH) (ae (bt lA eD) (ae (bq 0 gH) (ae (cT (cs:=[.int .u8 3,v8 pp,v8 0,(vI 0),(vI 0)]) nI cJ (by kernel_rfl)) ?_)))))))
 let fA:Lx.Item:=oI z1 129 [v8 pp,v8 0]
 have nK:=(cj.under (A:=[oI rb 149 [(str S),vN (ia+3),fe,vI 0],eh]) (B:=[fA]) (O:=[fA,oI rb 149 [(str S),vN (ia+3),fe,vI 0],eh]) (Hb base rb S (ia+3) lc lb l (⟨3,pp,0,0,0⟩:eC) hl) (by exact Sub.dP [fA] _ (.dP [fA] _ (.k .z))))
 refine aq (bm BD nK ?_)
 clear nK
 rintro vr O' ⟨A9,rfl,ud,ue,rfl,rfl⟩
 refine ak F (ah (aM (aB ?_)))
 refine aT (vN l.length) results96 F ?_
 exact⟨[oI rb 149 [(str S),vN (ia+3),(.slice ud ((l++[(⟨3,pp,0,0,0⟩:eC)]).length) ue),vI 0],av ud ue 72 5 (bQ (l++[(⟨3,pp,0,0,0⟩:eC)]))],(by exact Sub.k (.k .z)),_,_,F,F⟩
theorem yd {S:List UInt8} (qO:S.length≤4096) {ia i ib:Nat} {l m:List eC} (h1:Ch S ia 40) (Fx:uU 135 S (ia+1) l i ib m):uU 96 S ia l i ib m:=by
 intro base _ rb lb lc
 refine aE func96 F ntmps96 F ?_
 have gw:=h1.lt
 refine aj (ak F (ah (aj (ai F ?_))))
 have LI:=(cj.under (A:=[oI rb 149 [(str S),vN ia,(.slice lb l.length lc),vI 0]]) (B:=[av lb lc 72 5 (bQ l)]) (O:=[oI rb 149 [(str S),vN ia,(.slice lb l.length lc),vI 0],av lb lc 72 5 (bQ l)]) (ub base rb S qO ia 40 l.length lc lb h1) (by exact Sub.rf))
 refine aq (bm lz LI ?_)
 clear LI
 rintro vr O' ⟨A9,rfl,rfl,rfl⟩
 refine ak F (ah (aR (aj (ai F (ae a_ (ae (bt gi js) (ae (bq 0 o6) (ae (aC dW (am (by decide))) (ah (a8 (aL (aj (ai F (ae a_ (ae (bt gi bF) (ae (bq 0 ey) ?_))))))))))))))))
 refine ae (dr (a:=ia) (b:=1) F F (by omega)) (ae a_ (ae (bt gi bF) (aq (cq (vs:=[(vN (ia+1))]) 0 bF ?_))))
 refine ah (aR (aj (ai F (ah (aV (aj (ae (aC bK (am (by decide))) (ak F (ah (a8 (aj (ae (aC bK (am (by decide))) (ak F ?_)))))))))))))
 refine ah (a8 (aj (ae (aC bK (am (by decide))) (ak F (ah (a8 (aj (ae (aC bK (ax (by decide))) (ak F ?_)))))))))
 refine ah ?_
 refine b_ ?_
 refine aj (ai F ?_)
 let fh:List Lx.Item:=[oI rb 149 [(str S),(vN (ia+1)),(.slice lb l.length lc),vI 0],av lb lc 72 5 (bQ l)]
 have Dn:=(cj.under (A:=fh) (B:=[]) (O:=fh) (Fx base rb lb lc) (by exact Sub.rf))
 refine aq (bm Ui Dn ?_)
 clear Dn
 rintro vr O' ⟨A9,rfl,ud,ue,rfl,rfl⟩
 refine ak F (ah (aM (aB ?_)))
 refine aT (vN i) results96 F ?_
 exact⟨[oI rb 149 [(str S),vN ib,(.slice ud m.length ue),vI 0],av ud ue 72 5 (bQ m)],(by exact Sub.rf),_,_,F,F⟩
theorem P4 {S:List UInt8} (qO:S.length≤4096) {ia i ib:Nat} {l m:List eC} (hm:m.length≤1000) (h1:Ch S ia 62) (hE:uU 96 S (ia+1) l i ib m) (h2:Ch S ib 41):uU 135 S ia l m.length (ib+1) (m++[(⟨9,0,0,(i:Int),0⟩:eC)]):=by
 intro base _ rb lb lc
 refine aE func135 F ntmps135 F ?_
 have gw:=h1.lt;have l9:=h2.lt
 refine aj (ak F (ah (aj (ai F ?_))))
 have qj:=(cj.under (A:=[oI rb 149 [(str S),vN ia,(.slice lb l.length lc),vI 0]]) (B:=[av lb lc 72 5 (bQ l)]) (O:=[oI rb 149 [(str S),vN ia,(.slice lb l.length lc),vI 0],av lb lc 72 5 (bQ l)]) (ub base rb S qO ia 62 l.length lc lb h1) (by exact Sub.rf))
 refine aq (bm lz qj ?_)
 clear qj
 rintro vr O' ⟨A9,rfl,rfl,rfl⟩
 refine ak F (ah (aj (ak F (ah (aR (aj (ai F (ah (aV (aj (ae (aC bK (am (by omega))) (ak F (ah ?_)))))))))))))
 refine a8 (aj (ae (aC bK (ax (by omega))) (ak F (ah ?_))))
 refine b_ ?_
 refine bg (ak F (ah (aR (aj (ai F (ae (aC dW (ax (by decide))) (ah ?_)))))))
 refine b_ ?_
 refine aj (ai F (ae a_ (ae (bt gi bF) (ae (bq 0 ey) (ae (dr (a:=ia) (b:=1) F F (by omega)) (ae a_ (ae (bt gi bF) (aq (cq (vs:=[(vN (ia+1))]) 0 bF ?_)))))))))
 refine ah (aj (ai F ?_))
 let gP:List Lx.Item:=[oI rb 149 [(str S),(vN (ia+1)),(.slice lb l.length lc),vI 0],av lb lc 72 5 (bQ l)]
 have uc:=(cj.under (A:=gP) (B:=[]) (O:=gP) (hE base rb lb lc) (by exact Sub.rf))
 refine aq (bm Do uc ?_)
 clear uc
 rintro vr O' ⟨A9,rfl,ud,ue,rfl,rfl⟩
 refine ak F (ah (aj (ai F ?_)))
 have uf:=(cj.under (A:=[oI rb 149 [(str S),vN ib,(.slice ud m.length ue),vI 0]]) (B:=[av ud ue 72 5 (bQ m)]) (O:=[oI rb 149 [(str S),vN ib,(.slice ud m.length ue),vI 0],av ud ue 72 5 (bQ m)]) (P3 base rb S qO ib 41 m.length ue ud h2) (by exact Sub.rf))
 refine aq (bm BC uf ?_)
 clear uf
 rintro vr O' ⟨A9,rfl,rfl,rfl⟩
 refine ah (aj (ai F (ai F (ai F (ae (cT (cs:=[.int .u8 9,(.int .u8 0),(.int .u8 0),vN i,(vI 0)]) nI cJ (by kernel_rfl)) ?_)))))
 let jy:List Lx.Item:=[oI rb 149 [(str S),vN (ib+1),(.slice ud m.length ue),vI 0],av ud ue 72 5 (bQ m)]
 have LJ:=(cj.under (A:=jy) (B:=[]) (O:=jy) (Hb base rb S (ib+1) ue ud m (⟨9,0,0,(i:Int),0⟩:eC) hm) (by exact Sub.rf))
 refine aq (bm BD LJ ?_)
 clear LJ
 rintro vr O' ⟨A9,rfl,Sk,Sm,rfl,rfl⟩
 refine ak F (ah (aM (aB ?_)))
 refine aT (vN m.length) results135 F ?_
 exact⟨[oI rb 149 [(str S),vN (ib+1),(.slice Sk ((m++[(⟨9,0,0,(i:Int),0⟩:eC)]).length) Sm),vI 0],av Sk Sm 72 5 (bQ (m++[(⟨9,0,0,(i:Int),0⟩:eC)]))],(by exact Sub.rf),_,_,F,F⟩
theorem LL {S:List UInt8} (qO:S.length≤4096) {ia i ib c0:Nat} {l m:List eC} (hm:m.length≤1000) (h1:Ch S ia c0) (zP:c0=40∨c0=91) (hE:uU 96 S ia l i ib m) (h2:Ch S ib 42) (h3:Ch S (ib+1) 41):uU 135 S ia l m.length (ib+1+1) (m++[(⟨8,0,0,(i:Int),0⟩:eC)]):=by
 intro base _ rb lb lc
 refine aE func135 F ntmps135 F ?_
 have gw:=h1.lt;have l9:=h2.lt;have acN:=h3.lt
 refine aj (ak F (ah (aj (ai F ?_))))
 let iI:List Lx.Item:=[oI rb 149 [(str S),vN ia,(.slice lb l.length lc),vI 0],av lb lc 72 5 (bQ l)]
 have qj:=(cj.under (A:=[oI rb 149 [(str S),vN ia,(.slice lb l.length lc),vI 0]]) (B:=[av lb lc 72 5 (bQ l)]) (O:=iI) (ub base rb S qO ia c0 l.length lc lb h1) (by exact Sub.rf))
 refine aq (bm lz qj ?_)
 clear qj
 rintro vr O' ⟨A9,rfl,rfl,rfl⟩
 refine ak F (ah (aj (ak F (ah (aR (aj (ai F (ah (aV (aj (ae (aC bK (am (by omega))) (ak F (ah ?_)))))))))))))
 refine a8 (aj (ae (aC bK (am (by omega))) (ak F (ah (a8 (aj (ae (aC bK (am (by omega))) (ak F (ah ?_)))))))))
 refine a8 (aL (aR (aj (ai F (ae (aC dW (am (by decide))) (ah (a8 (aL (aj (ai F ?_))))))))))
 have Dp:=(cj.under (A:=iI) (B:=[]) (O:=iI) (hE base rb lb lc) (by exact Sub.rf))
 refine aq (bm Do Dp ?_)
 clear Dp
 rintro vr O' ⟨A9,rfl,ud,ue,rfl,rfl⟩
 refine ak F (ah (aR (aj (ai F ?_))))
 let pv:Lx.Item:=av ud ue 72 5 (bQ m)
 let oE:Value:=(.slice ud m.length ue)
 have LN:=(cj.under (A:=[oI rb 149 [(str S),vN ib,oE,vI 0]]) (B:=[pv]) (O:=[oI rb 149 [(str S),vN ib,oE,vI 0],pv]) (ub base rb S qO ib 42 m.length ue ud h2) (by exact Sub.rf))
 refine aq (bm lz LN ?_)
 clear LN
 rintro vr O' ⟨A9,rfl,rfl,rfl⟩
 refine ah (aV (aj (ae (aC bK (ax (by decide))) (ak F (ah ?_)))))
 refine b_ ?_
 refine aj (ai F (ae a_ (ae (bt gi bF) (ae (bq 0 ey) (ae (dr (a:=ib) (b:=1) F F (by omega)) (ae a_ (ae (bt gi bF) (aq (cq (vs:=[(vN (ib+1))]) 0 bF ?_)))))))))
 refine ah (aj (ai F ?_))
 have LO:=(cj.under (A:=[oI rb 149 [(str S),(vN (ib+1)),oE,vI 0]]) (B:=[pv]) (O:=[oI rb 149 [(str S),(vN (ib+1)),oE,vI 0],pv]) (P3 base rb S qO (ib+1) 41 m.length ue ud h3) (by exact Sub.rf))
 refine aq (bm BC LO ?_)
 clear LO
 rintro vr O' ⟨A9,rfl,rfl,rfl⟩
 refine ah (aj (ai F (ai F (ae (cT (cs:=[.int .u8 8,(.int .u8 0),(.int .u8 0),vN i,(vI 0)]) nI cJ (by kernel_rfl)) ?_))))
 have Dq:=(cj.under (A:=[oI rb 149 [(str S),vN (ib+1+1),oE,vI 0],pv]) (B:=[]) (O:=[oI rb 149 [(str S),vN (ib+1+1),oE,vI 0],pv]) (Hb base rb S (ib+1+1) ue ud m (⟨8,0,0,(i:Int),0⟩:eC) hm) (by exact Sub.rf))
 refine aq (bm BD Dq ?_)
 clear Dq
 rintro vr O' ⟨A9,rfl,Sk,Sm,rfl,rfl⟩
 refine ak F (ah (aM (aB ?_)))
 refine aT (vN m.length) results135 F ?_
 exact⟨[oI rb 149 [(str S),vN (ib+1+1),(.slice Sk ((m++[(⟨8,0,0,(i:Int),0⟩:eC)]).length) Sm),vI 0],av Sk Sm 72 5 (bQ (m++[(⟨8,0,0,(i:Int),0⟩:eC)]))],(by exact Sub.rf),_,_,F,F⟩
theorem Hc {S:List UInt8} (qO:S.length≤4096) {ia i ib j ic c0:Nat} {l m m2:List eC} (hm:m2.length≤1000) (h1:Ch S ia c0) (zP:c0=40∨c0=91) (hE:uU 96 S ia l i ib m) (h2:Ch S ib 46) (Uj:uU 96 S (ib+1) m j ic m2) (h3:Ch S ic 41):uU 135 S ia l m2.length (ic+1) (m2++[(⟨4,0,0,(i:Int),(j:Int)⟩:eC)]):=by
 intro base _ rb lb lc
 refine aE func135 F ntmps135 F ?_
 have gw:=h1.lt;have l9:=h2.lt;have acN:=h3.lt
 refine aj (ak F (ah (aj (ai F ?_))))
 let lV:List Lx.Item:=[oI rb 149 [(str S),vN ia,(.slice lb l.length lc),vI 0],av lb lc 72 5 (bQ l)]
 have qj:=(cj.under (A:=[oI rb 149 [(str S),vN ia,(.slice lb l.length lc),vI 0]]) (B:=[av lb lc 72 5 (bQ l)]) (O:=lV) (ub base rb S qO ia c0 l.length lc lb h1) (by exact Sub.rf))
 refine aq (bm lz qj ?_)
 clear qj
 rintro vr O' ⟨A9,rfl,rfl,rfl⟩
 refine ak F (ah (aj (ak F (ah (aR (aj (ai F (ah (aV (aj (ae (aC bK (am (by omega))) (ak F (ah ?_)))))))))))))
 refine a8 (aj (ae (aC bK (am (by omega))) (ak F (ah (a8 (aj (ae (aC bK (am (by omega))) (ak F (ah ?_)))))))))
 refine a8 (aL (aR (aj (ai F (ae (aC dW (am (by decide))) (ah (a8 (aL (aj (ai F ?_))))))))))
 have Dp:=(cj.under (A:=lV) (B:=[]) (O:=lV) (hE base rb lb lc) (by exact Sub.rf))
 refine aq (bm Do Dp ?_)
 clear Dp
 rintro vr O' ⟨A9,rfl,ud,ue,rfl,rfl⟩
 refine ak F (ah (aR (aj (ai F ?_))))
 have LN:=(cj.under (A:=[oI rb 149 [(str S),vN ib,(.slice ud m.length ue),vI 0]]) (B:=[av ud ue 72 5 (bQ m)]) (O:=[oI rb 149 [(str S),vN ib,(.slice ud m.length ue),vI 0],av ud ue 72 5 (bQ m)]) (ub base rb S qO ib 46 m.length ue ud h2) (by exact Sub.rf))
 refine aq (bm lz LN ?_)
 clear LN
 rintro vr O' ⟨A9,rfl,rfl,rfl⟩
 refine ah (aV (aj (ae (aC bK (am (by decide))) (ak F (ah (a8 (aj (ae (aC bK (ax (by decide))) (ak F (ah ?_))))))))))
 refine b_ ?_
 refine bg (ak F (ah (aj (ai F (ae a_ (ae (bt gi bF) (ae (bq 0 ey) (ae (dr (a:=ib) (b:=1) F F (by omega)) (ae a_ (ae (bt gi bF) (aq (cq (vs:=[(vN (ib+1))]) 0 bF ?_))))))))))))
 refine ah (aj (ai F ?_))
 let jN:List Lx.Item:=[oI rb 149 [(str S),(vN (ib+1)),(.slice ud m.length ue),vI 0],av ud ue 72 5 (bQ m)]
 have Yt:=(cj.under (A:=jN) (B:=[]) (O:=jN) (Uj base rb ud ue) (by exact Sub.rf))
 refine aq (bm Do Yt ?_)
 clear Yt
 rintro vr O' ⟨A9,rfl,Uk,Ul,rfl,rfl⟩
 refine ak F (ah (aj (ai F ?_)))
 let kn:Lx.Item:=oI rb 149 [(str S),vN ic,(.slice Uk m2.length Ul),vI 0]
 have LP:=(cj.under (A:=[kn]) (B:=[av Uk Ul 72 5 (bQ m2)]) (O:=[kn,av Uk Ul 72 5 (bQ m2)]) (P3 base rb S qO ic 41 m2.length Ul Uk h3) (by exact Sub.rf))
 refine aq (bm BC LP ?_)
 clear LP
 rintro vr O' ⟨A9,rfl,rfl,rfl⟩
 refine ah (aj (ai F (ai F (ai F (ai F (ae (cT (cs:=[.int .u8 4,(.int .u8 0),(.int .u8 0),vN i,vN j]) nI cJ (by kernel_rfl)) ?_))))))
 let jX:List Lx.Item:=[oI rb 149 [(str S),vN (ic+1),(.slice Uk m2.length Ul),vI 0],av Uk Ul 72 5 (bQ m2)]
 have Yu:=(cj.under (A:=jX) (B:=[]) (O:=jX) (Hb base rb S (ic+1) Ul Uk m2 (⟨4,0,0,(i:Int),(j:Int)⟩:eC) hm) (by exact Sub.rf))
 refine aq (bm BD Yu ?_)
 clear Yu
 rintro vr O' ⟨A9,rfl,Sk,Sm,rfl,rfl⟩
 refine ak F (ah (aM (aB ?_)))
 refine aT (vN m2.length) results135 F ?_
 exact⟨[oI rb 149 [(str S),vN (ic+1),(.slice Sk ((m2++[(⟨4,0,0,(i:Int),(j:Int)⟩:eC)]).length) Sm),vI 0],av Sk Sm 72 5 (bQ (m2++[(⟨4,0,0,(i:Int),(j:Int)⟩:eC)]))],(by exact Sub.rf),_,_,F,F⟩
theorem BE (w:World) [dA prog w] (o:Nat) (h1:1≤o) (h2:o≤10):
  cn prog 48 [v8 o] w fun v N=>v=vI (dU o:Int)∧N=[]:=by
 refine aE func48 F ntmps48 F ?_
 refine aj (ak F (ah (aR (aj (ai F (ah (aV ?_)))))))
 refine fg (fun ρ O=>Sub [] O∧df [(0,v8 o),(2,vI 0),(3,v8 o),(4,.bool (decide (o=1∨o=2∨o=3)))] ρ) ?_ ?_
 ·refine aR ?_
  refine bg (ae bK (ak F (ah (aZ F (fun hc=>?_) (fun hc=>?_)))))
  ·have acO:o=1:=by omega
   refine aL ?_
   exact⟨(by exact Sub.rf),⟨F,F,F,(au Value.bool (decide_eq_decide.2 (by omega))),trivial⟩⟩
  have acP: ¬o=1:=by omega
  refine aj (ae bK (ak F (ah (aZ F (fun hc=>?_) (fun hc=>?_)))))
  ·have acO:o=2:=by omega
   refine aL ?_
   exact⟨(by exact Sub.rf),⟨F,F,F,(au Value.bool (decide_eq_decide.2 (by omega))),trivial⟩⟩
  have acP: ¬o=2:=by omega
  refine bg (ae bK (ak F (ah ?_)))
  exact⟨(by exact Sub.rf),⟨F,F,F,(au Value.bool (decide_eq_decide.2 (by omega))),trivial⟩⟩
 rintro ρ O ⟨hS,hH⟩
 obtain⟨gA,rfl⟩:=hH.elim
 clear hH
 refine dc hS ?_
 refine aZ F (fun hc=>?_) (fun hc=>?_)
 ·refine aR ?_
  refine bg (ak F (ah (aM ?_)))
  refine aT (vI 0) results48 F ?_
  exact⟨au (fun n:Nat=>Value.int .i64 (n:Int)) (show 0=dU o by unfold dU;rw[aA (by omega),aA (by omega)]),F⟩
 refine fg (fun ρ O=>Sub [] O∧df [(0,v8 o),(2,vI 0),(3,v8 o),(4,.bool (decide (o=1∨o=2∨o=3))),(8,.bool (decide (o=7∨o=8∨o=9∨o=10)))] ρ) ?_ ?_
 ·refine aR ?_
  refine bg (ae bK (ak F (ah (aZ F (fun hc=>?_) (fun hc=>?_)))))
  ·have Yv:o=7:=by omega
   refine aL ?_
   exact⟨(by exact Sub.rf),⟨F,F,F,F,(au Value.bool (decide_eq_decide.2 (by omega))),trivial⟩⟩
  have Yw: ¬o=7:=by omega
  refine aj (ae bK (ak F (ah (aZ F (fun hc=>?_) (fun hc=>?_)))))
  ·have Yv:o=8:=by omega
   refine aL ?_
   exact⟨(by exact Sub.rf),⟨F,F,F,F,(au Value.bool (decide_eq_decide.2 (by omega))),trivial⟩⟩
  have Yw: ¬o=8:=by omega
  refine aj (ae bK (ak F (ah (aZ F (fun hc=>?_) (fun hc=>?_)))))
  ·have Yv:o=9:=by omega
   refine aL ?_
   exact⟨(by exact Sub.rf),⟨F,F,F,F,(au Value.bool (decide_eq_decide.2 (by omega))),trivial⟩⟩
  have Yw: ¬o=9:=by omega
  refine bg (ae bK (ak F (ah ?_)))
  exact⟨(by exact Sub.rf),⟨F,F,F,F,(au Value.bool (decide_eq_decide.2 (by omega))),trivial⟩⟩
 rintro ρ O ⟨hS,hH⟩
 obtain⟨gA,rfl⟩:=hH.elim
 clear hH
 refine dc hS ?_
 refine aZ F (fun hc=>?_) (fun hc=>?_)
 ·refine aR ?_
  refine bg (ak F (ah (aM ?_)))
  refine aT (vI 1) results48 F ?_
  exact⟨au (fun n:Nat=>Value.int .i64 (n:Int)) (show 1=dU o by unfold dU;rw[aA (by omega),aJ (by omega)]),F⟩
 refine fg (fun ρ O=>Sub [] O∧df [(0,v8 o),(2,vI 0),(3,v8 o),(4,.bool (decide (o=1∨o=2∨o=3))),(8,.bool (decide (o=7∨o=8∨o=9∨o=10))),(13,.bool (decide (o=4∨o=5∨o=6)))] ρ) ?_ ?_
 ·refine aR ?_
  refine bg (ae bK (ak F (ah (aZ F (fun hc=>?_) (fun hc=>?_)))))
  ·have k8:o=4:=by omega
   refine aL ?_
   exact⟨(by exact Sub.rf),⟨F,F,F,F,F,(au Value.bool (decide_eq_decide.2 (by omega))),trivial⟩⟩
  have Dr: ¬o=4:=by omega
  refine aj (ae bK (ak F (ah (aZ F (fun hc=>?_) (fun hc=>?_)))))
  ·have k8:o=5:=by omega
   refine aL ?_
   exact⟨(by exact Sub.rf),⟨F,F,F,F,F,(au Value.bool (decide_eq_decide.2 (by omega))),trivial⟩⟩
  have Dr: ¬o=5:=by omega
  refine bg (ae bK (ak F (ah ?_)))
  exact⟨(by exact Sub.rf),⟨F,F,F,F,F,(au Value.bool (decide_eq_decide.2 (by omega))),trivial⟩⟩
 rintro ρ O ⟨hS,hH⟩
 obtain⟨gA,rfl⟩:=hH.elim
 clear hH
 refine dc hS ?_
 refine aZ F (fun hc=>?_) (fun hc=>?_)
 ·refine aR ?_
  refine bg (ak F (ah (aM ?_)))
  refine aT (vI 2) results48 F ?_
  exact⟨au (fun n:Nat=>Value.int .i64 (n:Int)) (show 2=dU o by unfold dU;rw[aJ (by omega)]),F⟩
 refine aL (aj (ak F (ah (aM ?_))))
 refine aT (vI (-1)) results48 F ?_
 exact absurd h1 (by omega)
theorem Um (w:World) [dA prog w] (p n v:Nat) (hp:p<256) (hn:n<256) (hv:v≤6) (h0:BF v p n=0):
  cn prog 79 [.agg #[v8 p,v8 n],vN v] w fun r N=>r=vI 0∧N=[]:=by
 refine aE func79 F ntmps79 F ?_
 have hb:(p|||n)<2^v∧p&&&n=0:=by
  unfold BF at h0;split at h0<;>(try split at h0)<;>omega
 have hvt:(2:Nat)^((v:Int)).toNat=2^v:=by simp
 have I5:p≤p|||n:=Nat.left_le_or
 have Fz:n≤p|||n:=Nat.right_le_or
 refine aj (aq (dE (cs:=[v8 p,v8 n]) (fun n5=>?_)))
 refine ak F (ah (aR (aj (ai F (ae (aC cU (am (by omega))) (ai F (aF aI (aF (aC ij (am (by omega))) (ae bX (ah (a8 ?_)))))))))))
 refine aL (aj (ai F ?_))
 have Ds:=fun(w1:World) (hI:Inv w [oI n5 129 [v8 p,v8 n]] w1)=>(haveI:=ef hI;KX w1 (v:Int) (by omega) (by omega))
 refine aq (bm Yx (aX Ds) ?_)
 clear Ds
 rintro vr O' ⟨N,rfl,rfl,rfl⟩
 refine ak F (ah (aR (aj (ae (bt lA eD) (ae (bq 0 gH) (ae (fU gH ey F (by first|rfl|exact gD ⟨by omega,by omega⟩|exact qF (by omega)|exact og (by omega))) (ai F (ae (aC kV (am (by omega))) (ai F (aF (bt lA eD) (aF (bq 0 gH) (aF (fU gH ey F (by first|rfl|exact gD ⟨by omega,by omega⟩|exact qF (by omega)|exact og (by omega))) (aF aI ?_)))))))))))))
 refine aF (aC kV (am (by omega))) (ae bX (ah (a8 (aL (aR (aj (ae (bt lA eD) (ae (bq 0 gH) (ae (bt lA eD) (ae (bq 0 gH) (ae (G5 (a:=p) (b:=n) .u8 F F (by show _<256;omega) (by show _<256;omega)) (ae (aC dW (am (by simp only[hb.2];decide))) (ah ?_)))))))))))))
 refine a8 (aL (aj (ak F (ah (aM (aB ?_))))))
 refine aT (vI 0) results79 F ?_
 exact⟨[],Sub.z,F,F⟩
theorem P5 (w:World) [dA prog w] (x:eC) (v:Nat) (hp:x.p<256) (hn:x.n<256) (hv:v≤6) (h0:oF v x=0):
  cn prog 47 [x.ag,vN v] w fun r N=>r=vI 0∧N=[]:=by
 refine aE func47 F ntmps47 F ?_
 obtain⟨wS,tD,q1,q2,q3⟩:=kg h0
 have hp0:x.op=3∨(x.p=0∧x.n=0):=by
  by_cases h:x.op=3
  ·exact .inl h
  ·exact .inr (q1 h)
 have ha0: ¬dU x.op<1∨x.a=0:=by
  by_cases h:dU x.op<1
  ·exact .inr (q2 h)
  ·exact .inl h
 have G8: ¬dU x.op<2∨x.b=0:=by
  by_cases h:dU x.op<2
  ·exact .inr (q3 h)
  ·exact .inl h
 have hcu:x.op=3→BF v x.p x.n=0:=fun h=>by unfold oF at h0;rw[aA (by omega),aJ h]at h0;split at h0<;>first|exact h0|omega
 clear q1 q2 q3
 refine aj (aq (dE (cs:=x.cl) (fun n5=>?_)))
 refine ak F (ah (aj (ae (bt dt eD) (ae (bq 0 gH) ?_))))
 have AH:=fun(w1:World) (hI:Inv w [oI n5 72 x.cl] w1)=>(haveI:=ef hI;BE w1 x.op wS tD)
 refine aq (bm Hd (aX AH) ?_)
 clear AH
 rintro vr O' ⟨N,rfl,rfl,rfl⟩
 refine ak F (ah (aR (aj (ai F (ae (aC cU (am (by omega))) (ah (a8 (aL ?_))))))))
 refine fg (fun ρ O=>Sub [oI n5 72 x.cl] O∧df [(0,x.ag),(1,vN v),(2,(.pointer (aD n5))),(5,vI (dU x.op:Int)),(41,.bool false)] ρ) ?_ ?_
 ·refine aR ?_
  refine bg (ae (bt dt eD) (ae (bq 0 gH) ?_))
  by_cases h3:((x.op:Nat):Int)≠3
  ·refine ae (aC dW (ax h3)) ?_
   refine ai F (aF (bt dt eD) (aF (bq 0 gH) (aF (aC dW (am (by omega))) (aF aI (aF (bt dt eD) (aF (bq 0 gH) (aF (aC dW (am (by omega))) ?_)))))))
   refine aF bX (ae cm (ai F (aF aI ?_)))
   by_cases zP:((dU x.op:Nat):Int)<1
   ·refine aF (aC cU (ax zP)) ?_
    refine aF aI (aF (bt dt bF) (aF (bq 0 ey) (aF (aC dW (am (by omega))) (aF cm (ae bX (ai F (aF aI ?_)))))))
    by_cases qN:((dU x.op:Nat):Int)<2
    ·refine aF (aC cU (ax qN)) ?_
     refine aF aI (aF (bt dt bF) (aF (bq 0 ey) (aF (aC dW (am (by omega))) (aF cm (ae bX (ah (a8 ?_)))))))
     refine aL ?_
     exact⟨(by exact Sub.rf),(.of F)⟩
    refine aF (aC cU (am qN)) (aF aI (aQ (aQ (aQ (aF bX (ae bX (ah ?_)))))))
    refine a8 (aL ?_)
    exact⟨(by exact Sub.rf),(.of F)⟩
   refine aF (aC cU (am zP)) (aF aI (aQ (aQ (aQ (aF bX (ae bX (ai F (aF aI ?_))))))))
   by_cases qN:((dU x.op:Nat):Int)<2
   ·refine aF (aC cU (ax qN)) ?_
    refine aF aI (aF (bt dt bF) (aF (bq 0 ey) (aF (aC dW (am (by omega))) (aF cm (ae bX (ah (a8 ?_)))))))
    refine aL ?_
    exact⟨(by exact Sub.rf),(.of F)⟩
   refine aF (aC cU (am qN)) (aF aI (aQ (aQ (aQ (aF bX (ae bX (ah ?_)))))))
   refine a8 (aL ?_)
   exact⟨(by exact Sub.rf),(.of F)⟩
  refine ae (aC dW (am h3)) (ai F (aQ (aQ (aQ (aQ (aQ (aQ (aQ ?_))))))))
  refine aQ (ae bX (ai F (aF aI ?_)))
  by_cases zP:((dU x.op:Nat):Int)<1
  ·refine aF (aC cU (ax zP)) ?_
   refine aF aI (aF (bt dt bF) (aF (bq 0 ey) (aF (aC dW (am (by omega))) (aF cm (ae bX (ai F (aF aI ?_)))))))
   by_cases qN:((dU x.op:Nat):Int)<2
   ·refine aF (aC cU (ax qN)) ?_
    refine aF aI (aF (bt dt bF) (aF (bq 0 ey) (aF (aC dW (am (by omega))) (aF cm (ae bX (ah (a8 ?_)))))))
    refine aL ?_
    exact⟨(by exact Sub.rf),(.of F)⟩
   refine aF (aC cU (am qN)) (aF aI (aQ (aQ (aQ (aF bX (ae bX (ah ?_)))))))
   refine a8 (aL ?_)
   exact⟨(by exact Sub.rf),(.of F)⟩
  refine aF (aC cU (am zP)) (aF aI (aQ (aQ (aQ (aF bX (ae bX (ai F (aF aI ?_))))))))
  by_cases qN:((dU x.op:Nat):Int)<2
  ·refine aF (aC cU (ax qN)) ?_
   refine aF aI (aF (bt dt bF) (aF (bq 0 ey) (aF (aC dW (am (by omega))) (aF cm (ae bX (ah (a8 ?_)))))))
   refine aL ?_
   exact⟨(by exact Sub.rf),(.of F)⟩
  refine aF (aC cU (am qN)) (aF aI (aQ (aQ (aQ (aF bX (ae bX (ah ?_)))))))
  refine a8 (aL ?_)
  exact⟨(by exact Sub.rf),(.of F)⟩
 rintro ρ O ⟨hS,hH⟩
 obtain⟨gA,rfl⟩:=hH.elim
 clear hH
 refine dc hS ?_
 refine aR (aj (ae (bt dt eD) (ae (bq 0 gH) (ae bK (ah (aZ F (fun hc=>?_) (fun hc=>?_)))))))
 ·have mn:x.op=3:=by omega
  refine aj (ae (bt dt eD) (ae (bq 0 gH) (ae (bt dt eD) (ae (bq 0 gH) (ae (cT (cs:=[v8 x.p,v8 x.n]) rN ji (by kernel_rfl)) (ai F ?_))))))
  have LQ:=fun(w1:World) (hI:Inv w [oI n5 72 x.cl] w1)=>(haveI:=ef hI;Um w1 x.p x.n v hp hn hv (hcu mn))
  refine aq (bm Yy (aX LQ) ?_)
  clear LQ
  rintro vr O' ⟨N,rfl,rfl,rfl⟩
  refine ak F (ah (aM (aB ?_)))
  refine aT (vI 0) results47 F ?_
  exact⟨[],Sub.z,F,F⟩
 have R1: ¬x.op=3:=by omega
 refine aL (aj (ak F (ah (aM (aB ?_)))))
 refine aT (vI 0) results47 F ?_
 exact⟨[],Sub.z,F,F⟩
theorem Yz (w:World) [dA prog w] (o:Nat):
  cn prog 80 [v8 o] w fun v N=>v=.bool (decide (o=9)||decide (o=10))∧N=[]:=by
 refine aE func80 F ntmps80 F ?_
 refine aj (ak F (ah (aj (ai F ?_))))
 by_cases h9:((o:Nat):Int)=9
 ·refine ae (aC bK (ax h9)) ?_
  refine ai F (aQ (aQ (ae cm (ak F (ah (aM ?_))))))
  refine aT (.bool true) results80 F ?_
  exact⟨au Value.bool (by rw[ax (show o=9 by omega)];rfl),F⟩
 refine ae (aC bK (am h9)) (ai F (aF aI (aF bK (ae bX (ak F (ah (aM ?_)))))))
 refine aT (.bool (decide (((o:Nat):Int)=10))) results80 F ?_
 exact⟨au Value.bool (by rw[am (show¬o=9 by omega)];exact decide_eq_decide.2 (by omega)),F⟩
theorem P6 (w:World) [dA prog w] (eb:Option Addr) (ec:Nat) (e:List eC) (hE:Sl w eb (bQ e)) (i:Nat) (fr:Bool) (hi:i<e.length) (wS:1≤e[i].op) (tD:e[i].op≤10) (acR:(decide (e[i].op=9)||decide (e[i].op=10))=true→(!fr)=false) (He:1≤dU e[i].op→ ∀w1 [dA prog w1],Inv w [] w1→cn prog 49 [(.slice eb e.length ec),vI e[i].a,.bool (fr&&decide (e[i].op=4∨e[i].op=5))] w1 fun v N=>v=.bool false∧N=[]) (LR:2≤dU e[i].op→ ∀w1 [dA prog w1],Inv w [] w1→cn prog 49 [(.slice eb e.length ec),vI e[i].b,.bool (fr&&decide (e[i].op=4∨e[i].op=5))] w1 fun v N=>v=.bool false∧N=[]):
  cn prog 49 [(.slice eb e.length ec),vN i,.bool fr] w fun v N=>v=.bool false∧N=[]:=by
 refine aE func49 F ntmps49 F ?_
 refine aj (ak F (ah ?_))
 refine fg (fun ρ O=>Sub [] O∧df [(0,(.slice eb e.length ec)),(1,vN i),(2,.bool fr)] ρ) ?_ ?_
 ·refine aR ?_
  refine bg (ai F (ai F (ae (eA (i:=i) dR cJ F F (aK hE) hi (by rw[cB];omega)) (ae (cz dt F eD F F (aK hE) (by rw[cB];omega)) ?_))))
  refine ae (cS gH F F (aK hE) (fW (ap hi) 0 (by show 0<5;decide))) ?_
  have Ds:=fun(w1:World) (hI:Inv w [] w1)=>(haveI:=ef hI;Yz w1 e[i].op)
  refine aq (bm YA (aX Ds) ?_)
  clear Ds
  rintro vr O' ⟨N,rfl,rfl,rfl⟩
  by_cases OY:(decide (e[i].op=9)||decide (e[i].op=10))=true
  ·refine ae (aC aI (OY)) ?_
   refine aF aI (aF iV (ae cm (ah (a8 (aL ?_) (au Value.bool (acR OY))))))
   exact⟨(by exact Sub.rf),⟨F,F,F,trivial⟩⟩
  refine ae (aC aI (Bool.eq_false_iff.2 OY)) (aQ (aQ (ae bX (ah (a8 (aL ?_))))))
  exact⟨(by exact Sub.rf),⟨F,F,F,trivial⟩⟩
 rintro ρ O ⟨hS,hH⟩
 obtain⟨gA,rfl⟩:=hH.elim
 clear hH
 refine dc hS ?_
 refine fg (fun ρ O=>Sub [] O∧df [(0,(.slice eb e.length ec)),(1,vN i),(2,.bool fr),(7,.bool (fr&&decide (e[i].op=4∨e[i].op=5)))] ρ) ?_ ?_
 ·refine bg ?_
  refine ai F ?_
  by_cases LU:fr=true
  ·refine ae (aC aI (LU)) ?_
   refine aF aI (aF aI (aF (eA (i:=i) dR cJ F F (aK hE) hi (by rw[cB];omega)) (aF (cz dt F eD F F (aK hE) (by rw[cB];omega)) ?_)))
   refine aF (cS gH F F (aK hE) (fW (ap hi) 0 (by show 0<5;decide))) ?_
   refine aF bK ?_
   by_cases h4:((e[i].op:Nat):Int)=4
   ·refine aF (aC aI (ax h4)) ?_
    refine aQ (aQ (aQ (aQ (aQ (aQ (aF cm (ae cm (ak F ?_))))))))
    refine ah ?_
    exact⟨(by exact Sub.rf),⟨F,F,F,(au Value.bool (by rw[LU,ax (show e[i].op=4∨e[i].op=5 by omega)];rfl)),trivial⟩⟩
   refine aF (aC aI (am h4)) (aF aI (aF aI (aF (eA (i:=i) dR cJ F F (aK hE) hi (by rw[cB];omega)) (aF (cz dt F eD F F (aK hE) (by rw[cB];omega)) ?_))))
   refine aF (cS gH F F (aK hE) (fW (ap hi) 0 (by show 0<5;decide))) ?_
   refine aF bK (aF bX (ae cm (ak F (ah ?_))))
   exact⟨(by exact Sub.rf),⟨F,F,F,(au Value.bool (by rw[LU,Bool.true_and];exact decide_eq_decide.2 (by omega))),trivial⟩⟩
  refine ae (aC aI (Bool.eq_false_iff.2 LU)) (aQ (aQ (aQ (aQ (aQ (aQ (aQ ?_)))))))
  refine aQ (aQ (aQ (aQ (aQ (aQ (aQ (ae bX (ak F ?_))))))))
  refine ah ?_
  exact⟨(by exact Sub.rf),⟨F,F,F,(au Value.bool (by rw[Bool.eq_false_iff.2 LU];rfl)),trivial⟩⟩
 rintro ρ O ⟨hS,hH⟩
 obtain⟨gA,rfl⟩:=hH.elim
 clear hH
 refine dc hS ?_
 refine aR (aj (ai F (ai F (ae (eA (i:=i) dR cJ F F (aK hE) hi (by rw[cB];omega)) (ae (cz dt F eD F F (aK hE) (by rw[cB];omega)) ?_)))))
 refine ae (cS gH F F (aK hE) (fW (ap hi) 0 (by show 0<5;decide))) ?_
 have nK:=fun(w1:World) (hI:Inv w [] w1)=>(haveI:=ef hI;BE w1 e[i].op wS tD)
 refine aq (bm Hd (aX nK) ?_)
 clear nK
 rintro vr O' ⟨N,rfl,rfl,rfl⟩
 refine ah (aV (aj (ae bK (ak F (ah (aZ F (fun hc=>?_) (fun hc=>?_)))))))
 ·have we:dU e[i].op=1:=by omega
  refine aj (ai F (ai F (ai F (ae (eA (i:=i) dR cJ F F (aK hE) hi (by rw[cB];omega)) ?_))))
  refine ae (cz dt F bF F F (aK hE) (by rw[cB];omega)) (ae (cS ey F F (aK hE) (fW (ap hi) 3 (by show 3<5;decide))) (ai F ?_))
  have YB:=fun(w1:World) (hI:Inv w [] w1)=>(haveI:=ef hI;He (by omega) w1 hI.lK)
  refine aq (bm Hf (aX YB) ?_)
  clear YB
  rintro vr O' ⟨N,rfl,rfl,rfl⟩
  refine ak F (ah (aM ?_))
  refine aT (.bool false) results49 F ?_
  exact⟨F,F⟩
 have Se: ¬dU e[i].op=1:=by omega
 refine aj (ae bK (ak F (ah (aZ F (fun hc=>?_) (fun hc=>?_)))))
 ·have afw:dU e[i].op=2:=by omega
  refine aj (ai F (ai F (ai F (ae (eA (i:=i) dR cJ F F (aK hE) hi (by rw[cB];omega)) ?_))))
  refine ae (cz dt F bF F F (aK hE) (by rw[cB];omega)) (ae (cS ey F F (aK hE) (fW (ap hi) 3 (by show 3<5;decide))) (ai F ?_))
  have LV:=fun(w1:World) (hI:Inv w [] w1)=>(haveI:=ef hI;He (by omega) w1 hI.lK)
  refine aq (bm Hf (aX LV) ?_)
  clear LV
  rintro vr O' ⟨N,rfl,rfl,rfl⟩
  refine ai F (aF aI (aF aI (aF aI (aF (eA (i:=i) dR cJ F F (aK hE) hi (by rw[cB];omega)) (aF (cz dt F bF F F (aK hE) (by rw[cB];omega)) ?_)))))
  refine aF (cS ey F F (aK hE) (fW (ap hi) 4 (by show 4<5;decide))) ?_
  refine aF aI ?_
  have LW:=fun(w1:World) (hI:Inv w [] w1)=>(haveI:=ef hI;LR (by omega) w1 hI.lK)
  refine gk F F F (bm Hf (aX LW) ?_)
  clear LW
  rintro vr O' ⟨N,rfl,rfl,rfl⟩
  refine ae bX (ak F (ah (aM ?_)))
  refine aT (.bool false) results49 F ?_
  exact⟨F,F⟩
 have afx: ¬dU e[i].op=2:=by omega
 refine aL (aj (ak F (ah (aM ?_))))
 refine aT (.bool false) results49 F ?_
 exact⟨F,F⟩
theorem Un (eb:Option Addr) (ec:Nat) (e:List eC) {v:Nat} {fs:List Nat} (hb:ki v e=.ok fs): ∀(f i:Nat) (fr:Bool) (w:World) [dA prog w] (hE:Sl w eb (bQ e)) (hi:i<e.length),i<f→nL e f i fr=true→cn prog 49 [(.slice eb e.length ec),vN i,.bool fr] w fun v N=>v=.bool false∧N=[]
 |0,i,fr,w,_,_,hi,hf,_=>absurd hf (by omega)
 |f+1,i,fr,w,_,hE,hi,hf,hv=>by
  have ht:=o8 hb i hi
  obtain⟨wS,tD,_⟩:=kg (oq hb hi)
  rw[na hi]at hv
  split at hv
  ·cases hv
  ·rename_i hn
   rw[ay,Bool.or_eq_true,Bool.or_eq_true]at hv
   refine P6 w eb ec e hE i fr hi wS tD (fun h=>?_) (fun h w2 _ kY=>?_) (fun h w2 _ kY=>?_)
   ·cases fr with
    |true=>rfl
    |false=>exact absurd ⟨by simpa using h,F⟩ hn
   ·obtain⟨j,hj,Bp⟩:=ht.1 h
    rw[hj]
    have h2:=hv.1.resolve_left (by rw[bT];omega)
    rw[hj,Int.toNat_natCast]at h2
    exact Un eb ec e hb f j _ w2 (kY.sl hE) (by omega) (by omega) h2
   ·obtain⟨j,hj,Bp⟩:=ht.2 h
    rw[hj]
    have h2:=hv.2.resolve_left (by rw[bT];omega)
    rw[hj,Int.toNat_natCast]at h2
    exact Un eb ec e hb f j _ w2 (kY.sl hE) (by omega) (by omega) h2
theorem AI {fs:List Nat} {i k:Nat} (h1:k<i) (h2:k<fs.length):(bW (fs.take i))[k]? =some (vN (fs.getD k 0)):=by
 show((fs.take i).map _)[k]? =_
 rw[bi,List.getElem?_take,aJ h1,az,ap h2];rfl
theorem YD (w:World) [dA prog w] (eb:Option Addr) (ec:Nat) (e:List eC) (hE:Sl w eb (bQ e)) (mw: ∀x∈e,x.p<256∧x.n<256) (v:Nat) (h0:iz (v:Int) e=0):
  cn prog 22 [(.slice eb e.length ec),vN v] w fun r N=>r=vI 0∧N=[]:=by
 refine aE func22 F ntmps22 F ?_
 obtain⟨_,Kt,I3,FL,fs,oJ,Uo,acS⟩:=nf h0
 rw[Int.toNat_natCast]at oJ
 have ug:fs.length=e.length:=by
  obtain⟨gs,g1,g2,_⟩:=pQ oJ e.length (aS _)
  rw[List.take_length,oJ]at g1
  injection g1 with g1;rw[g1];exact g2
 refine aj (ak F (ah (aR (aj (ai F (ae (aC cU (am (by omega))) (ai F (aF aI (aF (aC ij (am (by omega))) (ae bX (ah ?_)))))))))))
 refine a8 (aL (aR (aj (ai F (ae (cQ dR) (ae (aC bK (am (by omega))) (ah (a8 (aL (aR (aj (ai F (ae (cQ dR) (ae (aC ij (am (by omega))) (ah ?_)))))))))))))))
 refine a8 (aL (aj (ak F (ah (aR (aj (ak F (ah (aV (T.fq 3 1 ?_))))))))))
 let fe:Value:=(.slice eb e.length ec)
 refine dZ (fun(i:Nat) ρ O=> ∃(b:Option Addr) (c:Nat),O=[av b c 3 1 (bW (fs.take i))]∧i≤e.length∧df [(0,fe),(1,vN v),(5,(.slice b i c)),(6,vN i)] ρ) (fun i=>e.length-i) 0 ?_ ?_
 ·exact⟨none,0,F,bl _,⟨F,F,F,F,trivial⟩⟩
 rintro i ρ O ⟨b,c,rfl,hi,hH⟩
 obtain⟨gA,rfl⟩:=hH.elim
 clear hH
 refine aR (aj (ai F (ai F (ae (cQ dR) (ae cU (ah (aZ F (fun hc=>?_) (fun hc=>?_))))))))
 ·have lS:i<e.length:=by omega
  have OZ:=mw _ (aN lS)
  have wg:=oq oJ lS
  obtain⟨wS,tD,_⟩:=kg wg
  obtain⟨g0,g1,g2,g3⟩:=xe oJ lS
  have Xi:dU e[i].op=0∨dU e[i].op=1∨dU e[i].op=2:=Sn _
  refine aL (aR (aV (aj (ai F (ai F (ae (eA (i:=i) dR cJ F F (aK hE) lS (by rw[cB];omega)) (ae (eW (vs:=e[i].cl) dt F cJ F F (bu _) (aK hE) (kP lS)) (ai F ?_))))))))
  let eh:List Lx.Item:=[av b c 3 1 (bW (fs.take i))]
  have LX:=fun(w1:World) (hI:Inv w eh w1)=>(haveI:=ef hI;P5 w1 e[i] v OZ.1 OZ.2 (by omega) wg)
  refine aq (bm YE (aX LX) ?_)
  clear LX
  rintro vr O' ⟨N,rfl,rfl,rfl⟩
  refine ak F (ah (aR (aj (ai F (ae (aC dW (am (by decide))) (ah (a8 (aL (aj (ai F (ak F (ah ?_))))))))))))
  refine fg (fun ρ O=>Sub eh O∧df [(0,fe),(1,vN v),(5,(.slice b i c)),(6,vN i),(7,vI 0),(8,vN (if dU e[i].op=1 then fs.getD i 0 else i))] ρ) ?_ ?_
  ·refine aR ?_
   refine bg (ai F (ai F (ae (eA (i:=i) dR cJ F F (aK hE) lS (by rw[cB];omega)) (ae (cz dt F eD F F (aK hE) (by rw[cB];omega)) ?_))))
   refine ae (cS gH F F (aK hE) (fW (ap lS) 0 (by show 0<5;decide))) ?_
   have x_:=fun(w1:World) (hI:Inv w eh w1)=>(haveI:=ef hI;BE w1 e[i].op wS tD)
   refine aq (bm Hd (aX x_) ?_)
   clear x_
   rintro vr O' ⟨N,rfl,rfl,rfl⟩
   refine ae bK (ah (aZ F (fun hc=>?_) (fun hc=>?_)))
   ·have tZ:dU e[i].op=1:=by omega
    obtain⟨k1,k2,k3⟩:=g1 tZ
    refine aR (aj (ai F (ai F (ae (eA (i:=i) dR cJ F F (aK hE) lS (by rw[cB];omega)) (ae (cz dt F bF F F (aK hE) (by rw[cB];omega)) ?_)))))
    refine ae (cS ey F F (aK hE) (fW (ap lS) 3 (by show 3<5;decide))) (ai F (ae (bL (fI F F (by omega)) (v':=vN (i-1)) (au (Value.int .i64) (by omega))) (ae (aC dW (am (by omega))) ?_)))
    refine ai F (aF aI (aF (aC bK (am (by omega))) (ae bX (ah (a8 (aL (bg (ai F (ai F (ae (bL (fI F F (by omega)) (v':=vN (i-1)) (au (Value.int .i64) (by omega))) (ae (dX (i:=(i-1)) cL bF F F (dT (mG 0)) (by omega) (by rw[ar,cw];omega)) ?_)))))))))))
    refine ae (cS ey F F (dT (mG 0)) (show(bW (fs.take i))[i-1]? =some (vN (fs.getD (i-1) 0))from AI (by omega) (by omega))) (ak F (ah ?_))
    exact⟨(by exact Sub.rf),⟨F,F,F,F,F,(au (fun n9:Nat=>Value.int .i64 ((n9:Nat):Int)) (by rw[aJ tZ];exact k3.symm)),trivial⟩⟩
   have vZ: ¬dU e[i].op=1:=by omega
   refine aL ?_
   exact⟨(by exact Sub.rf),⟨F,F,F,F,F,(au (fun n9:Nat=>Value.int .i64 ((n9:Nat):Int)) (by rw[aA vZ])),trivial⟩⟩
  rintro ρ O ⟨hS,hH⟩
  obtain⟨gA,rfl⟩:=hH.elim
  clear hH
  refine dc hS ?_
  refine fg (fun ρ O=>Sub eh O∧df [(0,fe),(1,vN v),(5,(.slice b i c)),(6,vN i),(7,vI 0),(8,vN (fs.getD i 0))] ρ) ?_ ?_
  ·refine aR ?_
   refine bg (ai F (ai F (ae (eA (i:=i) dR cJ F F (aK hE) lS (by rw[cB];omega)) (ae (cz dt F eD F F (aK hE) (by rw[cB];omega)) ?_))))
   refine ae (cS gH F F (aK hE) (fW (ap lS) 0 (by show 0<5;decide))) ?_
   have YF:=fun(w1:World) (hI:Inv w eh w1)=>(haveI:=ef hI;BE w1 e[i].op wS tD)
   refine aq (bm Hd (aX YF) ?_)
   clear YF
   rintro vr O' ⟨N,rfl,rfl,rfl⟩
   refine ae bK (ah (aZ F (fun hc=>?_) (fun hc=>?_)))
   ·have ye:dU e[i].op=2:=by omega
    obtain⟨k1,k2,k3,k4,k5,k6⟩:=g2 ye
    refine aR (aR ?_)
    refine fS [(0,0),(1,0),(2,0),(3,0),(4,0),(5,0),(6,0),(7,0),(8,0),(9,0),(10,0),(11,0),(12,0),(13,0),(14,0),(15,0),(16,0),(17,0),(18,0),(19,0),(20,0),(21,0),(22,0),(23,0),(24,0),(25,0),(26,0),(27,0),(28,0),(29,0),(30,0),(31,0),(32,0),(33,0)] ?_
    refine aw F aI (aw F aI (aw F (eA (i:=i) dR cJ F F (aK hE) lS (by rw[cB];omega)) (aw F (cz dt F bF F F (aK hE) (by rw[cB];omega)) ?_)))
    refine aw F (cS ey F F (aK hE) (fW (ap lS) 4 (by show 4<5;decide))) (aw F aI (aw F (bL (fI F F (by omega)) (v':=vN (i-1)) (au (Value.int .i64) (by omega))) (aw F (aC dW (am (by omega))) ?_)))
    refine aw F aI ?_
    refine bn F F F aI ?_
    refine bn F F F (aC bK (am (by omega))) ?_
    refine aw F bX (aw F aI ?_)
    refine bn F F F aI ?_
    refine bn F F F aI ?_
    refine bn F F F (bL (fI F F (by omega)) (v':=vN (i-1)) (au (Value.int .i64) (by omega))) ?_
    refine bn F F F (dX (i:=(i-1)) cL bF F F (dT (mG 0)) (by omega) (by rw[ar,cw];omega)) ?_
    refine bn F F F (cS ey F F (dT (mG 0)) (show(bW (fs.take i))[i-1]? =some (vN (fs.getD (i-1) 0))from AI (by omega) (by omega))) ?_
    refine bn F F F (aC bK (am (by omega))) ?_
    refine aw F bX (aw F aI ?_)
    refine bn F F F aI ?_
    refine bn F F F aI ?_
    refine bn F F F (eA (i:=i) dR cJ F F (aK hE) lS (by rw[cB];omega)) ?_
    refine bn F F F (cz dt F bF F F (aK hE) (by rw[cB];omega)) ?_
    refine bn F F F (cS ey F F (aK hE) (fW (ap lS) 3 (by show 3<5;decide))) ?_
    refine bn F F F aI ?_
    refine bn F F F aI ?_
    refine bn F F F (bL (fI F F (by omega)) (v':=vN (i-1)) (au (Value.int .i64) (by omega))) ?_
    refine bn F F F (dX (i:=(i-1)) cL bF F F (dT (mG 0)) (by omega) (by rw[ar,cw];omega)) ?_
    refine bn F F F (cS ey F F (dT (mG 0)) (show(bW (fs.take i))[i-1]? =some (vN (fs.getD (i-1) 0))from AI (by omega) (by omega))) ?_
    refine bn F F F (sO (a:=(fs.getD (i-1) 0)) (b:=1) F F (by omega) (by omega)) ?_
    refine bn F F F (aC dW (am (by omega))) ?_
    refine aw F bX ?_
    refine cA ?_
    refine a8 (aL (bg (ai F (ai F (ai F (ae (bL (fI F F (by omega)) (v':=vN (i-1)) (au (Value.int .i64) (by omega))) (ae (dX (i:=(i-1)) cL bF F F (dT (mG 0)) (by omega) (by rw[ar,cw];omega)) (ae (cS ey F F (dT (mG 0)) (show(bW (fs.take i))[i-1]? =some (vN (fs.getD (i-1) 0))from AI (by omega) (by omega))) (ae (bL (fI F F (by omega)) (v':=vN (fs.getD (i-1) 0-1)) (au (Value.int .i64) (by omega))) (ae (dX (i:=(fs.getD (i-1) 0-1)) cL bF F F (dT (mG 0)) (by omega) (by rw[ar,cw];omega)) (ae (cS ey F F (dT (mG 0)) (show(bW (fs.take i))[(fs.getD (i-1) 0-1)]? =some (vN (fs.getD (fs.getD (i-1) 0-1) 0))from AI (by omega) (by omega))) (ak F (ah ?_)))))))))))))
    exact⟨(by exact Sub.rf),⟨F,F,F,F,F,(au (fun n9:Nat=>Value.int .i64 ((n9:Nat):Int)) (by rw[k6,k4];congr 1;omega)),trivial⟩⟩
   have YG: ¬dU e[i].op=2:=by omega
   refine aL ?_
   exact⟨(by exact Sub.rf),⟨F,F,F,F,F,(au (fun n9:Nat=>Value.int .i64 ((n9:Nat):Int)) (by split;rfl;exact(g3 (by omega)).symm)),trivial⟩⟩
  rintro ρ O ⟨hS,hH⟩
  obtain⟨gA,rfl⟩:=hH.elim
  clear hH
  refine dc hS ?_
  refine bg (ai F (ai F (aq (cR (v:=vN (fs.getD i 0)) cL bF F F F (fun z1=>?_)))))
  refine aq (dq 1 cL cL bF F F F F (by rw[ar,cw];omega) (by decide) (Src.row (j:=0) F (by simp)) (by simp[fF]) (by omega) (by decide) (by decide) (fun z2 vd=>?_))
  refine ak F (ah (bg (ai F (ae (dr (a:=i) (b:=1) F F (by omega)) (ak F (ah ?_))))))
  exact⟨i+1,by omega,[av z2 vd 3 1 ((bW (fs.take i))++[vN (fs.getD i 0)])],(by exact Sub.d (.k .z)),z2,vd,by rw[aH (show i<fs.length by omega),show bW (fs.take i++[fs[i]])=bW (fs.take i)++[vN (fs[i])]from bj,show fs.getD i 0=fs[i] by rw[az,ap (by omega)];rfl],by omega,⟨F,F,F,F,trivial⟩⟩
 have CI: ¬i<e.length:=by omega
 have xf:i=e.length:=by omega
 refine cG ?_
 refine aR (aj (ai F (ai F (ae (cQ dR) (ae (bL (fI F F (by omega)) (v':=vN (e.length-1)) (au (Value.int .i64) (by omega))) (ae (dX (i:=(e.length-1)) cL bF F F (dT (mG 0)) (by omega) (by rw[ar,cw];omega)) (ae (cS ey F F (dT (mG 0)) (show(bW (fs.take i))[e.length-1]? =some (vN (fs.getD (e.length-1) 0))from AI (by omega) (by omega))) (ae (aC dW (am (by omega))) (ah (a8 (aL (aR (aj (ai F (ai F (ae (cQ dR) (ae (bL (fI F F (by omega)) (v':=vN (e.length-1)) (au (Value.int .i64) (by omega))) ?_)))))))))))))))))
 have Sp:=fun(w1:World) (hI:Inv w [av b c 3 1 (bW (fs.take i))] w1)=>(haveI:=ef hI;Un eb ec e oJ e.length (e.length-1) true w1 (hI.sl hE) (by omega) (by omega) acS)
 refine aq (bm Hf (aX Sp) ?_)
 clear Sp
 rintro vr O' ⟨N,rfl,rfl,rfl⟩
 refine ah (a8 (aL (aj (ak F (ah (aM (aB ?_)))))))
 refine aT (vI 0) results22 F ?_
 exact⟨[],Sub.z,F,F⟩
theorem Up (w:World) [dA prog w] (S:List UInt8) (qO:S.length≤4096) (v i:Nat) (hv:v≤6) (m:List eC) (hR:uU 96 S 0 [] i S.length m) (mw: ∀x∈m,x.p<256∧x.n<256) (h0:iz (v:Int) m=0):
  cn prog 59 [(str S),vN v] w fun v N=> ∃b c,v=.tuple #[.slice b m.length c,vI 0]∧N=[av b c 72 5 (bQ m)]:=by
 refine aE func59 F ntmps59 F ?_
 refine aj (ak F (ak F (ah (aR (aj (ai F (ae (aC cU (am (by omega))) (ai F (aF aI (aF (aC ij (am (by omega))) (ae bX (ah ?_))))))))))))
 refine a8 (aL (aR (aj (ai F (ae (xR wh F) (ae (aC ij (am (by omega))) (ah (a8 (aL (aj (ai F (ae (cT (cs:=[(str S),(vI 0),nS,(vI 0)]) P7 Uq (by kernel_rfl)) (aq (dE (cs:=[(str S),(vI 0),nS,(vI 0)]) (fun z1=>?_)))))))))))))))
 refine ak F (ah (aR (T.fq 72 5 ?_)))
 refine bg (ai F ?_)
 have mx:=(cj.under (A:=[oI z1 149 [(str S),vN 0,(.slice none (([]:List eC).length) 0),vI 0],av none 0 72 5 (bQ [])]) (B:=[]) (O:=[av none 0 72 5 [],oI z1 149 [(str S),(vI 0),nS,(vI 0)]]) (hR w z1 none 0) (by exact Sub.dP [av none 0 72 5 []] _ (.k .z)))
 refine aq (bm Do mx ?_)
 clear mx
 rintro vr O' ⟨A9,rfl,lb,lc,rfl,rfl⟩
 refine ah (aR (aj (ai F (ae a_ (ae (bt gi js) (ae (bq 0 o6) (ae (aC bK (ax (by decide))) (ai F (aF aI (aF a_ (aF (bt gi bF) (aF (bq 0 ey) (aF aI ?_)))))))))))))
 refine aF (xR wh F) (aF (aC cU (am (by omega))) (ae cm (ah (a8 (aL (aR (aj (ai F (ae a_ (ae (bt gi js) (ae (bq 0 o6) (ae (aC bK (ax (by decide))) ?_))))))))))))
 refine ah ?_
 refine b_ ?_
 refine bg (ai F (ai F (ae a_ (ae (bt gi il) (ae (bq 0 dR) (ai F ?_))))))
 have YH:=fun(w1:World) (hI:Inv w [oI z1 149 [(str S),vN S.length,(.slice lb m.length lc),vI 0],av lb lc 72 5 (bQ m)] w1)=>(haveI:=ef hI;YD w1 lb lc m (hI.gV (mG 1)) mw v h0)
 refine aq (bm YI (aX YH) ?_)
 clear YH
 rintro vr O' ⟨N,rfl,rfl,rfl⟩
 refine ae a_ (ae (bt gi js) (aq (cq (vs:=[(vI 0)]) 0 js ?_)))
 refine ah (aR (aj (ai F (ae a_ (ae (bt gi js) (ae (bq 0 o6) (ae (aC dW (am (by decide))) (ah (a8 (aL (aj (ai F (ae a_ (ae (bt gi il) (ae (bq 0 dR) (ak F (ak F ?_)))))))))))))))))
 refine ah (aM (aB ?_))
 refine de (.slice lb m.length lc) (vI 0) results59 F F ?_
 exact⟨[av lb lc 72 5 (bQ m)],(by exact Sub.d (.k .z)),_,_,F,F⟩
theorem LY (w:World) [dA prog w] (S:List UInt8) (qO:S.length≤4096) (v i:Nat) (hv:v≤6) (m:List eC) (hR:uU 96 S 0 [] i S.length m) (mw: ∀x∈m,x.p<256∧x.n<256) (h0:iz (v:Int) m=0):
  cn prog 32 [(str S),vN v] w fun v N=> ∃b c,v=.slice b m.length c∧N=[av b c 72 5 (bQ m)]:=by
 refine aE func32 F ntmps32 F ?_
 refine aj (ak F (ah (aj (ai F (ai F ?_)))))
 have lB:=fun(w1:World) (hI:Inv w [] w1)=>(haveI:=ef hI;Up w1 S qO v i hv m hR mw h0)
 refine aq (bm YJ (aX lB) ?_)
 clear lB
 rintro vr O' ⟨N,rfl,b,c,rfl,rfl⟩
 refine ai F (ae (bI (vs:=_)) (ae (bI (vs:=_)) (ak F (ak F (ah (aj (ai F (ak F (ah (aM (aB ?_)))))))))))
 refine aT (.slice b m.length c) results32 F ?_
 exact⟨[av b c 72 5 (bQ m)],(by exact Sub.rf),_,_,F,F⟩
def P8:List UInt8:=[40,40,91,42,93,42,41,46,40,91,97,93,46,91,42,93,41,41]
def O0:List UInt8:=[40,40,62,40,91,42,93,46,91,98,93,41,41,46,40,91,42,93,42,41,41]
def aS3:List UInt8:=[91,42,93]
def zQ:List eC:=[⟨3,0,0,0,0⟩,⟨8,0,0,0,0⟩,⟨3,1,0,0,0⟩,⟨3,0,0,0,0⟩,⟨4,0,0,2,3⟩,⟨4,0,0,1,4⟩]
def uh:List eC:=[⟨3,0,0,0,0⟩,⟨3,2,0,0,0⟩,⟨4,0,0,0,1⟩,⟨9,0,0,2,0⟩,⟨3,0,0,0,0⟩,⟨8,0,0,4,0⟩,⟨4,0,0,3,5⟩]
def Hg:List eC:=[⟨3,0,0,0,0⟩]
theorem Dt {S:List UInt8} (qO:S.length≤4096) {ia:Nat} {l:List eC} (hl:l.length≤1000) (h1:Ch S ia 91) (h2:Ch S (ia+1) 42) (h3:Ch S (ia+1+1) 93):uU 96 S ia l l.length (ia+3) (l++[(⟨3,0,0,0,0⟩:eC)]):=
 Sj qO hl h1 fun base _ rb lb n lc=>Yr base rb S qO (ia+1) n lc lb h2 h3
theorem Sq {S:List UInt8} (qO:S.length≤4096) {ia k:Nat} {l:List eC} (hk:k<6) (hl:l.length≤1000) (h1:Ch S ia 91) (h2:Ch S (ia+1) (97+k)) (h3:Ch S (ia+1+1) 93):uU 96 S ia l l.length (ia+3) (l++[(⟨3,0|||1*2^k,0,0,0⟩:eC)]):=
 Sj qO hl h1 fun base _ rb lb n lc=>Ys base rb S qO (ia+1) k n lc lb hk h2 h3
theorem rd1:uU 96 P8 0 [] 5 18 zQ:=by
 have hS:P8.length≤4096:=by decide
 have a:uU 96 P8 2 [] 0 5 (zQ.take 1):=Dt hS (by decide) F F F
 have b:uU 96 P8 1 [] 1 7 (zQ.take 2):=yd hS F (LL (ia:=2) (c0:=91) hS (by decide) F (.inr F) a F F)
 have c:uU 96 P8 9 (zQ.take 2) 2 12 (zQ.take 3):=Sq hS (k:=0) (by decide) (by decide) F F F
 have d:uU 96 P8 13 (zQ.take 3) 3 16 (zQ.take 4):=Dt hS (by decide) F F F
 have f:uU 96 P8 8 (zQ.take 2) 4 17 (zQ.take 5):=yd hS F (Hc (ia:=9) (c0:=91) hS (by decide) F (.inr F) c F d F)
 exact yd hS F (Hc (ia:=1) (c0:=40) hS (by decide) F (.inl F) b F f F)
theorem rd2:uU 96 O0 0 [] 6 21 uh:=by
 have hS:O0.length≤4096:=by decide
 have a:uU 96 O0 4 [] 0 7 (uh.take 1):=Dt hS (by decide) F F F
 have b:uU 96 O0 8 (uh.take 1) 1 11 (uh.take 2):=Sq hS (k:=1) (by decide) (by decide) F F F
 have c:uU 96 O0 3 [] 2 12 (uh.take 3):=yd hS F (Hc (ia:=4) (c0:=91) hS (by decide) F (.inr F) a F b F)
 have d:uU 96 O0 1 [] 3 13 (uh.take 4):=yd hS F (P4 (ia:=2) hS (by decide) F c F)
 have f:uU 96 O0 15 (uh.take 4) 4 18 (uh.take 5):=Dt hS (by decide) F F F
 have g:uU 96 O0 14 (uh.take 4) 5 20 (uh.take 6):=yd hS F (LL (ia:=15) (c0:=91) hS (by decide) F (.inr F) f F F)
 exact yd hS F (Hc (ia:=1) (c0:=40) hS (by decide) F (.inl F) d F g F)
theorem rd3:uU 96 aS3 0 [] 0 3 Hg:=Dt (by decide) (by decide) F F F
theorem YK:iz (1:Nat) zQ=0:=by kernel_rfl
theorem YL:iz (2:Nat) uh=0:=by kernel_rfl
theorem acU:iz (0:Nat) Hg=0:=by kernel_rfl
section
variable (w:World) [dA prog w]
theorem YM:cn prog 32 [(str P8),.int .i64 ((1:Nat):Int)] w (fun v N=> ∃b c,v=.slice b zQ.length c∧N=[av b c 72 5 (bQ zQ)]):=LY w P8 (by decide) 1 5 (by decide) zQ rd1 (by decide) YK
theorem YN:cn prog 32 [(str O0),.int .i64 ((2:Nat):Int)] w (fun v N=> ∃b c,v=.slice b uh.length c∧N=[av b c 72 5 (bQ uh)]):=LY w O0 (by decide) 2 6 (by decide) uh rd2 (by decide) YL
theorem YO:cn prog 32 [(str aS3),.int .i64 ((0:Nat):Int)] w (fun v N=> ∃b c,v=.slice b Hg.length c∧N=[av b c 72 5 (bQ Hg)]):=LY w aS3 (by decide) 0 0 (by decide) Hg rd3 (by decide) acU
end
theorem Yb (w:World) [dA prog w] (d:cV) (k:DK) (h:At w d k) (hv:Valid d) (hn:d.next.length<10000) {M:cV} (hM:jm d=M):
  cn prog 14 [(dV d k)] w (fun v N=> ∃b c,v=.tuple #[.slice b (Lu M).length c,vN (PN M)]∧N=[av b c 72 5 (bQ (Lu M))]):=by
 refine aE func14 F ntmps14 F ?_
 have Jg:Valid M:=by rw[←hM];exact pz hv
 have hn4:=Jg.n4
 have TY:=Jg.n0
 have hL:ez M≤64:=bV (by decide) (show M.vars.toNat≤6 by have:=Jg.v6;have:=Jg.v0;omega)
 have PS:ez M≤256:=by omega
 refine aj (aq (dE (cs:=(dC d k)) (fun z1=>?_)))
 refine ak F (ak F (ah (aj (ae (eN 0 dj bN) (aq (bm Df (aX fun w1 hI=>(haveI:=ef hI;Dg w1 d k (hI.rI h) hv hn hM)) ?_))))))
 rintro vr O' ⟨N,rfl,k2,rfl,rfl⟩
 refine ai F (ae (bI (vs:=_)) (ae (bI (vs:=_)) (aq (bs bN (fun z2=>?_)))))
 refine aq (cq (vs:=(dC M k2)) 0 bN ?_)
 refine ak F (ah (aR (aj (ai F (ae (aC dW (am (by decide))) (ah (a8 (aL (aR ?_)))))))))
 let gP:Lx.Item:=oI z2 25 (dC M k2)
 refine dc (O':=[dI 56 4 3 M k2,gP]) (by exact Sub.dP [gP] _ (.k .z)) ?_
 refine FC (fun Dh=>?_)
 let fA:Lx.Item:=av k2.fb k2.fc 4 1 (cI M.a7)
 let fh:Lx.Item:=av k2.nb k2.nc 56 1 (dG k2.qs)
 refine dc (O':=([fh,fA,gP]++cg 3 k2.qs)) (by exact gy [fh,fA] _ (cg 3 k2.qs)) ?_
 have Jh:=Lw Dh
 refine bg (ae (bt dj fR) (ae (bq 2 fp) (ae (cQ fp) (ak F (ah (aj (ae (cT (cs:=[.int .u8 1,(.int .u8 0),(.int .u8 0),(vI 0),(vI 0)]) nI cJ (by kernel_rfl)) (aq (bm C_ (aX fun w1 hI=>(haveI:=ef hI;x6 w1 1 ⟨1,0,0,0,0⟩)) ?_)))))))))
 rintro vr O' ⟨N,rfl,q0,c0,rfl,rfl,Ah,Di⟩
 have qL:gm q0 c0.r:=Di.elim id (fun h=>absurd h (by simp))
 refine dM (O':=([fh,fA,gP]++((dy 72 q0)++(cg 3 k2.qs)))) (by exact fK [] _ (dy 72 q0) (cg 3 k2.qs)) ?_
 refine aq (bs dh (fun z3=>?_))
 refine aq (cq (vs:=c0.cells) 0 dh ?_)
 refine ah (aj (ai F (aq (cX (m:=M.next.length) x8 o5 F F (by omega) (by omega) (fun z4=>?_)))))
 refine ak F (ah (aR (aj (ae (bt dj fR) (ae (bq 4 fp) (ae (cQ fp) (ai F (ah (aV ?_)))))))))
 let iI:Lx.Item:=oI z3 69 c0.cells
 let jN:Value:=(.slice (aD z4) M.next.length M.next.length)
 let lm:Value:=(.pointer (aD z1))
 let sQ:Value:=(.slice k2.nb M.next.length k2.nc)
 let se:Value:=(.pointer (aD z2))
 let qM:Value:=(.pointer (aD z3))
 refine dZ (fun(R:List MR) ρ O=> ∃(p:List ER),O=([av (aD z4) M.next.length 75 1 (jh R M.next.length),iI,fh,fA,gP]++(dy 72 p++(eO 69 R++cg 3 k2.qs)))∧R.length≤M.next.length∧qh R p M.next.length (mu M 0)∧gm p c0.r∧df [(0,(dV d k)),(1,lm),(2,nS),(3,vI 0),(4,se),(5,vI 0),(6,vI (M.next.length:Int)),(7,qM),(8,jN),(38,sQ),(39,vI (M.next.length:Int)),(40,vN R.length)] ρ) (fun R=>M.next.length-R.length) [] ?_ ?_
 ·exact⟨q0,by unfold jh k7;rfl,bl _,.nil,qL,(.of F)⟩
 rintro R ρ O ⟨p,rfl,hs,hR,qL,hH⟩
 obtain⟨gA,rfl⟩:=hH.elim
 clear hH
 have ahw:fN c0.pp:=by rw[Ah];exact x7
 refine aj (ae cU (ah (aR (aZ F (fun hc=>?_) (fun hc=>?_)))))
 ·have we:R.length<M.next.length:=by omega
  have wO:R.length<k2.qs.length:=by omega
  refine aL (aR (aV (aj (ai F (ae (dX (i:=R.length) fp cZ F F (dT (mG 2)) we (by rw[ar];exact wO)) (ae (cS cL F F (dT (mG 2)) (Ly wO)) (ak F (ak F (ah (aj (ai F (ai F (ah (aV (T.fq 69 2 ?_)))))))))))))))
  let oE:Value:=(.slice k2.qs[R.length].b k2.qs[R.length].xs.length k2.qs[R.length].c)
  refine dZ (fun(l:List PR) ρ O=> ∃(p2:List ER) (cb:Option Addr) (cc:Nat),O=([av cb cc 69 2 (eL l),av (aD z4) M.next.length 75 1 (jh (R++[⟨cb,cc,l⟩]) M.next.length),iI,fh,fA,gP]++(dy 72 p2++(eO 69 R++cg 3 k2.qs)))∧l.length≤M.next.length∧wN l p2 (mu M 0 R.length)∧qh R p2 M.next.length (mu M 0)∧gm p2 c0.r∧df [(0,(dV d k)),(1,lm),(2,nS),(3,vI 0),(4,se),(5,vI 0),(6,vI (M.next.length:Int)),(7,qM),(8,jN),(9,vN R.length),(10,oE),(38,sQ),(39,vI (M.next.length:Int)),(40,vN R.length),(45,vI (M.next.length:Int)),(46,vN l.length)] ρ) (fun l=>M.next.length-l.length) [] ?_ ?_
  ·exact⟨p,none,0,by rw[Dc we];rfl,bl _,.nil,hR,qL,(.of F)⟩
  rintro l ρ O ⟨p2,cb,cc,rfl,ht,hl,zu,qL,hH⟩
  obtain⟨gA,rfl⟩:=hH.elim
  clear hH
  refine aj (ae cU (ah (aR (aZ F (fun hc=>?_) (fun hc=>?_)))))
  ·have LB:l.length<M.next.length:=by omega
   refine aL (aR (aV (aj (ai F (ak F (ah (aj (ae (eN 2 gh dh) (aq (bs dh (fun z5=>?_)))))))))))
   refine aq (cq (vs:=c0.cells) 0 dh ?_)
   refine ah ?_
   let jy:Lx.Item:=av (aD z4) M.next.length 75 1 (jh (R++[⟨cb,cc,l⟩]) M.next.length)
   let lV:Lx.Item:=av cb cc 69 2 (eL l)
   refine fg (fun ρ O=> ∃(p3:List ER) (pc:PR),Sub ([oI z5 69 pc.cells,lV,jy,iI,fh,fA,gP]++(dy 72 p3++(eO 69 R++cg 3 k2.qs))) O∧pc.pp=Jf M R.length l.length 0∧gm p3 pc.r∧(∀y∈p2,y∈p3)∧df [(0,(dV d k)),(1,lm),(2,nS),(3,vI 0),(4,se),(5,vI 0),(6,vI (M.next.length:Int)),(7,qM),(8,jN),(9,vN R.length),(10,oE),(11,vN l.length),(12,(.pointer (aD z5))),(38,sQ),(39,vI (M.next.length:Int)),(40,vN R.length),(45,vI (M.next.length:Int)),(46,vN l.length)] ρ) ?_ ?_
   ·refine aR ?_
    refine bg (ai F (ai F (ae bK (ah (aZ F (fun hc=>?_) (fun hc=>?_))))))
    ·have KY:R.length=l.length:=by omega
     refine bg (ae (cT (cs:=[.int .u8 2,(.int .u8 0),(.int .u8 0),(vI 0),(vI 0)]) nI cJ (by kernel_rfl)) (aq (bm C_ (aX fun w1 hI=>(haveI:=ef hI;x6 w1 2 ⟨2,0,0,0,0⟩)) ?_)))
     rintro vr O' ⟨N,rfl,q1,c1,rfl,rfl,zP,Di⟩
     have PT:gm (q1++p2) c1.r:=v7 Di (fun x hx=>by simp at hx)
     refine dM (O':=([oI z5 69 c0.cells,lV,jy,iI,fh,fA,gP]++((dy 72 q1)++(dy 72 p2++(eO 69 R++cg 3 k2.qs))))) (by exact fK [] _ (dy 72 q1) (dy 72 p2++(eO 69 R++cg 3 k2.qs))) ?_
     refine aq (cq (vs:=c1.cells) 0 dh ?_)
     refine ah ?_
     exact⟨(q1++p2),c1,(by rw[qI,a6];exact Sub.rf),by rw[zP];unfold Jf;rw[aJ (by omega)];rfl,PT,fun y hy=>ao _ hy,(.of F)⟩
    have CJ: ¬R.length=l.length:=by omega
    refine aL ?_
    exact⟨p2,c0,(by exact Sub.rf),by rw[Ah];unfold Jf;rw[aA (by omega)];rfl,qL,fun y hy=>hy,(.of F)⟩
   rintro ρ O ⟨p3,pc,hS,E_,acA,PU,hH⟩
   obtain⟨gA,rfl⟩:=hH.elim
   clear hH
   refine dc hS ?_
   refine aR (aj (ai F (ae (bL (cQ cL) (v':=vN (ez M)) (by rw[Bz Dh Jg.toVal wO])) (ai F (ah (aV ?_))))))
   refine dZ (fun(x:Nat) ρ O=> ∃(p4:List ER) (pd:PR),O=([oI z5 69 pd.cells,lV,jy,iI,fh,fA,gP]++(dy 72 p4++(eO 69 R++cg 3 k2.qs)))∧x≤ez M∧pd.pp=Jf M R.length l.length x∧gm p4 pd.r∧(∀y∈p2,y∈p4)∧df [(0,(dV d k)),(1,lm),(2,nS),(3,vI 0),(4,se),(5,vI 0),(6,vI (M.next.length:Int)),(7,qM),(8,jN),(9,vN R.length),(10,oE),(11,vN l.length),(12,(.pointer (aD z5))),(38,sQ),(39,vI (M.next.length:Int)),(40,vN R.length),(45,vI (M.next.length:Int)),(46,vN l.length),(55,oE),(56,vN (ez M)),(57,vN x)] ρ) (fun x=>ez M-x) 0 ?_ ?_
   ·exact⟨p3,pc,F,bl _,E_,acA,PU,(.of F)⟩
   rintro x ρ O ⟨p4,pd,rfl,hx,PV,Ji,LC,hH⟩
   obtain⟨gA,rfl⟩:=hH.elim
   clear hH
   refine aj (ae cU (ah (aR (aZ F (fun hc=>?_) (fun hc=>?_)))))
   ·have Dj:x<ez M:=by omega
    refine aL (aR (aV (aj (ai F (ae (dX (i:=x) cL bF F F (dT (ao _ (ao _ (ao _ ((LA wO)))))) (by rw[Bz Dh Jg.toVal wO];exact Dj) (by rw[ar,Bz Dh Jg.toVal wO];exact Dj)) (ae (cS ey F F (dT (ao _ (ao _ (ao _ ((LA wO)))))) (Ya Dh Jg.toVal wO Dj)) (ak F (ak F (ah (aj (ai F (ai F (ae bK (ah (aZ F (fun hc=>?_) (fun hc=>?_))))))))))))))))
    ·have Yc:eS M R.length x=l.length:=by omega
     refine fS [(0,0),(1,0),(2,0),(3,0),(4,0),(5,0),(6,0),(7,0),(8,0),(9,0),(10,1),(11,2),(12,2)] ?_
     refine aw F (eN 0 gh dh) (aw F aI (aw F (fU ey gH F (by first|rfl|exact gD ⟨by omega,by omega⟩|exact qF (by omega)|exact og (by omega))) (aw F aI (aw F (bL (cQ cL) (v':=vN (ez M)) (by rw[Bz Dh Jg.toVal wO])) (aw F (sO (a:=(ez M)) (b:=1) F F (by omega) (by omega)) (aw F aI (aw F (sO (a:=((ez M)-1)) (b:=x) F F (by omega) (by omega)) (aw F (fU ey gH F (by first|rfl|exact gD ⟨by omega,by omega⟩|exact qF (by omega)|exact og (by omega))) (aw F (cT (cs:=[.int .u8 3,v8 x,v8 (((ez M)-1)-x),(vI 0),(vI 0)]) nI cJ (by kernel_rfl)) ?_)))))))))
     refine cH F F (bm C_ (aX fun w1 hI=>(haveI:=ef hI;x6 w1 0 ⟨3,x,ez M-1-x,0,0⟩)) ?_)
     rintro vr O' ⟨N,rfl,q2,c2,rfl,rfl,qN,Di⟩
     refine⟨nH _ (by exact Sub.rf),?_⟩
     have LD:gm (q2++p4) c2.r:=v7 Di (fun x hx=>by simp at hx)
     have Ji:=Ji.mono (fun y hy=>ao q2 hy)
     have acB:fN pd.pp:=by rw[PV];exact t_ PS _ _ _ hx
     have PW:fN c2.pp:=by rw[qN];exact Da Dj PS
     let x9:List Lx.Item:=[oI z5 69 pd.cells,lV,jy,iI,fh,fA,gP]
     refine eR (O':=(x9++((dy 72 q2)++(dy 72 p4++(eO 69 R++cg 3 k2.qs))))) (by exact fK [] _ (dy 72 q2) (dy 72 p4++(eO 69 R++cg 3 k2.qs))) ?_
     refine cy F F (bm LF (aX fun w1 hI=>(haveI:=ef hI;Ud w1 pd c2 (gm.sl (T:=72) hI (ly (fun it fO=>ao _ (aO _ fO)) (fun it fO=>ao _ (ao _ (aO _ fO)))) Ji) acB (gm.sl (T:=72) hI (ly (fun it fO=>ao _ (aO _ fO)) (fun it fO=>ao _ (ao _ (aO _ fO)))) LD) PW)) ?_)
     rintro vr O' ⟨N,rfl,q3,c3,rfl,rfl,hc3,Di⟩
     have PY:gm (q3++(q2++p4)) c3.r:=v7 Di (fun x hx=>by simp only[dm,List.not_mem_nil,or_false]at hx;rcases hx with rfl|rfl;exact Ji;exact LD)
     
     refine eR (O':=(x9++((dy 72 q3)++((dy 72 q2)++(dy 72 p4++(eO 69 R++cg 3 k2.qs)))))) (by exact fK [] _ (dy 72 q3) ((dy 72 q2)++(dy 72 p4++(eO 69 R++cg 3 k2.qs)))) ?_
     refine cy F F (cq (vs:=c3.cells) 0 dh ?_)
     refine eR (O':=([oI z5 69 c3.cells,lV,jy,iI,fh,fA,gP]++(dy 72 (q3++(q2++p4))++(eO 69 R++cg 3 k2.qs)))) (by simp only[qI,a6];exact Sub.rf) ?_
     refine cA ?_
     refine bg (ae (dr (a:=x) (b:=1) F F (by omega)) (ai F (ah ?_)))
     have e9:c3.pp=Jf M R.length l.length (x+1):=by rw[hc3,qN,PV,Jf,aJ (by omega)];rfl
     exact⟨x+1,by omega,[oI z5 69 c3.cells,lV,jy,iI,fh,fA,gP]++(dy 72 (q3++(q2++p4))++(eO 69 R++cg 3 k2.qs)),(by exact Sub.rf),(q3++(q2++p4)),c3,F,by omega,e9,PY,fun y hy=>ao _ (ao _ (LC y hy)),(.of F)⟩
    have Yd: ¬eS M R.length x=l.length:=by omega
    refine aL (bg (ae (dr (a:=x) (b:=1) F F (by omega)) (ai F (ah ?_))))
    exact⟨x+1,by omega,[oI z5 69 pd.cells,lV,jy,iI,fh,fA,gP]++(dy 72 p4++(eO 69 R++cg 3 k2.qs)),(by exact Sub.rf),p4,pd,F,by omega,by unfold Jf;rw[aA (by omega)];exact PV,Ji,LC,(.of F)⟩
   have Ye: ¬x<ez M:=by omega
   refine cG ?_
   refine T.ds ([oI z5 69 pd.cells,jy,iI,fh,fA,gP]++(dy 72 p4++(eO 69 R++cg 3 k2.qs))) [(0,0),(1,0),(2,0),(3,0),(4,0),(5,0),(6,0),(7,1),(8,1),(9,0),(10,2)] (by exact Sub.k (.d (.k (.k (.k (.k (.k .rf))))))) ?_
   refine aw F aI (aw F aI (aw F aI (aw F aI (aw F (dX (i:=R.length) x8 o5 F F (dT (mG 1)) we (by rw[mv (by simp;omega)];exact we)) (aw F (cS mr F F (dT (mG 1)) (Dd (by omega) ⟨cb,cc,l⟩)) (aw F (eN 0 gh dh) ?_))))))
   refine cH F F (cK (m:=1) (parts:=[(0,_)]) (cs:=pd.cells) mr dh (by decide) (by kernel_rfl) F (fun z6=>⟨by exact Sub.d (.k (.d (.k (.k (.k (.k (.k .rf))))))),?_⟩))
   refine cH F F (dq 2 mr mr dh F F F F (by rw[ik]) (by decide) (Src.row (j:=0) F (by simp)) (by simp[fF]) (by dsimp only;omega) (by decide) (by decide) (fun z7 Dk=>⟨by exact Sub.d (.k (.d (.k (.k (.k (.k (.k .rf))))))),?_⟩))
   refine aw F (dX (i:=R.length) x8 o5 F F (dT (mG 1)) we (by rw[mv (by simp;omega)];exact we)) ?_
   refine cy F F (n7 (j:=R.length) (v:=(.slice z7 (l.length+1) Dk)) (vs:=[(.slice z7 (l.length+1) Dk)]) (cs:=jh (R++[⟨cb,cc,l⟩]) M.next.length) 3 o5 F F F F F (by simp) F (by rw[mv (by simp;omega)];simp;omega) ?_)
   let wP:Lx.Item:=av (aD z4) M.next.length 75 1 (jh (R++[⟨z7,Dk,l++[pd]⟩]) M.next.length)
   refine eR (O':=([av (aD z6) 1 69 2 pd.cells,oI z5 69 pd.cells,av z7 Dk 69 2 ((eL l)++pd.cells),wP,iI,fh,fA,gP]++(dy 72 p4++(eO 69 R++cg 3 k2.qs)))) (by rw[show eZ (jh (R++[⟨cb,cc,l⟩]) M.next.length) R.length [(.slice z7 (l.length+1) Dk)]=jh (R++[⟨z7,Dk,l++[pd]⟩]) M.next.length from(by rw[←AF (by omega) ⟨cb,cc,l⟩ ⟨z7,Dk,l++[pd]⟩,show(⟨z7,Dk,l++[pd]⟩:MR).val=.slice z7 (l.length+1) Dk by simp[MR.val]];rfl)];exact ck (aY _)) ?_
   refine cA ?_
   refine bg (ae (dr (a:=l.length) (b:=1) F F (by omega)) (ai F (ah ?_)))
   exact⟨l++[pd],by simp;omega,[av z7 Dk 69 2 (eL (l++[pd])),wP,iI,fh,fA,gP]++(dy 72 p4++(eO 69 R++cg 3 k2.qs)),(by rw[tW];exact(by exact Sub.d (.d (.k (.k (.k (.k (.k (.k .rf))))))))),p4,z7,Dk,F,by simp;omega,(hl.mono LC).snoc (PV.trans (by rw[show x=ez M by omega];rfl)) Ji,zu.mono LC,qL.mono LC,⟨F,F,F,F,F,F,F,F,F,F,F,F,F,F,F,(au (fun n9:Nat=>Value.int .i64 ((n9:Nat):Int)) (show l.length+1=(l++[pd]).length by simp)),trivial⟩⟩
  have LG: ¬l.length<M.next.length:=by omega
  refine cG ?_
  refine bg (ae (dr (a:=R.length) (b:=1) F F (by omega)) (ai F (ah ?_)))
  have Ku:l.length=M.next.length:=by omega
  exact⟨R++[⟨cb,cc,l⟩],by simp;omega,[av (aD z4) M.next.length 75 1 (jh (R++[⟨cb,cc,l⟩]) M.next.length),iI,fh,fA,gP]++(dy 72 p2++(eO 69 (R++[⟨cb,cc,l⟩])++cg 3 k2.qs)),(by rw[Db];exact v_ [av (aD z4) M.next.length 75 1 (jh (R++[⟨cb,cc,l⟩]) M.next.length),oI z3 69 c0.cells,av k2.nb k2.nc 56 1 (dG k2.qs),av k2.fb k2.fc 4 1 (cI M.a7),oI z2 25 (dC M k2)] [av cb cc 69 2 (eL l),av (aD z4) M.next.length 75 1 (jh (R++[⟨cb,cc,l⟩]) M.next.length),oI z3 69 c0.cells,av k2.nb k2.nc 56 1 (dG k2.qs),av k2.fb k2.fc 4 1 (cI M.a7),oI z2 25 (dC M k2)] (dy 72 p2) (eO 69 R) (cg 3 k2.qs) (av cb cc 69 2 (eL l)) (by exact Sub.dP [av cb cc 69 2 (eL l)] _ (.dP [av cb cc 69 2 (eL l)] _ (.dP [av cb cc 69 2 (eL l)] _ (.dP [av cb cc 69 2 (eL l)] _ (.dP [av cb cc 69 2 (eL l)] _ (.k .z))))))),p2,F,by simp;omega,zu.snoc Ku hl,qL,⟨F,F,F,F,F,F,F,F,F,F,F,(au (fun n9:Nat=>Value.int .i64 ((n9:Nat):Int)) (show R.length+1=(R++[(⟨cb,cc,l⟩:MR)]).length by simp)),trivial⟩⟩
 have Se: ¬R.length<M.next.length:=by omega
 refine cG ?_
 refine aR (aj (ai F (ai F (ah (aV ?_)))))
 have hRn:R.length=M.next.length:=by omega
 have heV:=AE hRn
 refine dZ (fun(k9:Nat) ρ O=> ∃(R:List MR) (p:List ER) (ob:Option Addr) (oc:Nat),O=([av ob oc 75 1 (k7 R),iI,fh,fA,gP]++(dy 72 p++(eO 69 R++cg 3 k2.qs)))∧k9≤M.next.length∧R.length=M.next.length∧qh R p M.next.length (mu M k9)∧gm p c0.r∧df [(0,(dV d k)),(1,lm),(2,nS),(3,vI 0),(4,se),(5,vI 0),(6,vI (M.next.length:Int)),(7,qM),(8,(.slice ob M.next.length oc)),(90,vI (M.next.length:Int)),(91,vN k9)] ρ) (fun k9=>M.next.length-k9) 0 ?_ ?_
 ·exact⟨R,p,(aD z4),M.next.length,by rw[heV],bl _,hRn,hR,qL,(.of F)⟩
 rintro k9 ρ O ⟨R,p,ob,oc,rfl,qj,hRn,hR,qL,hH⟩
 obtain⟨gA,rfl⟩:=hH.elim
 clear hH
 refine aj (ae cU (ah (aR (aZ F (fun hc=>?_) (fun hc=>?_)))))
 ·have Sf:k9<M.next.length:=by omega
  refine aL (aR (aV (aj (ai F (ak F (ah (aj (ai F (aq (cX (m:=M.next.length) x8 o5 F F (by omega) (by omega) (fun z9=>?_)))))))))))
  refine ak F (ah (aR (aj (ai F (ai F (ah (aV ?_)))))))
  let jX:Lx.Item:=av ob oc 75 1 (k7 R)
  refine dZ (fun(R2:List MR) ρ O=> ∃(p2:List ER),O=([av (aD z9) M.next.length 75 1 (jh R2 M.next.length),jX,iI,fh,fA,gP]++(dy 72 p2++(eO 69 R2++(eO 69 R++cg 3 k2.qs))))∧R2.length≤M.next.length∧qh R2 p2 M.next.length (mu M (k9+1))∧qh R p2 M.next.length (mu M k9)∧gm p2 c0.r∧df [(0,(dV d k)),(1,lm),(2,nS),(3,vI 0),(4,se),(5,vI 0),(6,vI (M.next.length:Int)),(7,qM),(8,(.slice ob M.next.length oc)),(15,vN k9),(16,(.slice (aD z9) M.next.length M.next.length)),(90,vI (M.next.length:Int)),(91,vN k9),(96,vI (M.next.length:Int)),(97,vN R2.length)] ρ) (fun R2=>M.next.length-R2.length) [] ?_ ?_
  ·exact⟨p,by unfold jh k7;rfl,bl _,.nil,hR,qL,(.of F)⟩
  rintro R2 ρ O ⟨p2,rfl,hs,zu,hR,qL,hH⟩
  obtain⟨gA,rfl⟩:=hH.elim
  clear hH
  refine aj (ae cU (ah (aR (aZ F (fun hc=>?_) (fun hc=>?_)))))
  ·have Dl:R2.length<M.next.length:=by omega
   refine aL (aR (aV (aj (ai F (ak F (ah (aj (ai F (ai F (ah (aV (T.fq 69 2 ?_))))))))))))
   refine dZ (fun(l:List PR) ρ O=> ∃(p3:List ER) (cb:Option Addr) (cc:Nat),O=([av cb cc 69 2 (eL l),av (aD z9) M.next.length 75 1 (jh (R2++[⟨cb,cc,l⟩]) M.next.length),jX,iI,fh,fA,gP]++(dy 72 p3++(eO 69 R2++(eO 69 R++cg 3 k2.qs))))∧l.length≤M.next.length∧wN l p3 (mu M (k9+1) R2.length)∧qh R2 p3 M.next.length (mu M (k9+1))∧qh R p3 M.next.length (mu M k9)∧gm p3 c0.r∧df [(0,(dV d k)),(1,lm),(2,nS),(3,vI 0),(4,se),(5,vI 0),(6,vI (M.next.length:Int)),(7,qM),(8,(.slice ob M.next.length oc)),(15,vN k9),(16,(.slice (aD z9) M.next.length M.next.length)),(17,vN R2.length),(90,vI (M.next.length:Int)),(91,vN k9),(96,vI (M.next.length:Int)),(97,vN R2.length),(100,vI (M.next.length:Int)),(101,vN l.length)] ρ) (fun l=>M.next.length-l.length) [] ?_ ?_
   ·exact⟨p2,none,0,by rw[Dc Dl];rfl,bl _,.nil,zu,hR,qL,(.of F)⟩
   rintro l ρ O ⟨p3,cb,cc,rfl,ht,hl,Yf,AG,qL,hH⟩
   obtain⟨gA,rfl⟩:=hH.elim
   clear hH
   refine aj (ae cU (ah (aR (aZ F (fun hc=>?_) (fun hc=>?_)))))
   ·have LH:l.length<M.next.length:=by omega
    have E9:R2.length<R.length:=by omega
    have qi:k9<R.length:=by omega
    obtain⟨a1,ea1,Sg,Dm⟩:=AG.at E9 LH
    obtain⟨a2,ea2,Yg,PZ⟩:=AG.at E9 Sf
    obtain⟨a3,ea3,ha3,Yh⟩:=AG.at qi Sf
    obtain⟨a4,ea4,ha4,Jj⟩:=AG.at qi LH
    have acD:fN a1.pp:=by rw[Sg];exact iT PS _ _ _
    have Yi:fN a2.pp:=by rw[Yg];exact iT PS _ _ _
    have Yj:fN a3.pp:=by rw[ha3];exact iT PS _ _ _
    have Yk:fN a4.pp:=by rw[ha4];exact iT PS _ _ _
    have ahC:=AG.len _ (aN E9)
    have ahD:=AG.len _ (aN qi)
    refine aL (aR (aV (aj (ai F (ak F (ah ?_))))))
    let eh:List Lx.Item:=[av (aD z9) M.next.length 75 1 (jh (R2++[⟨cb,cc,l⟩]) M.next.length),av ob oc 75 1 (k7 R),oI z3 69 c0.cells,av k2.nb k2.nc 56 1 (dG k2.qs),av k2.fb k2.fc 4 1 (cI M.a7),oI z2 25 (dC M k2)]
    refine T.ds (eh++(dy 72 p3++(eO 69 R2++(eO 69 R++cg 3 k2.qs)))) [(0,0),(1,0),(2,0),(3,0),(4,0),(5,0),(6,0),(7,0),(8,0),(9,0),(10,0),(11,0),(12,0),(13,0),(14,0),(15,0),(16,0),(17,0),(18,0),(19,0),(20,0),(21,0),(22,0),(23,0),(24,0),(25,0),(26,0),(29,0),(30,0),(31,0),(32,0),(33,0),(34,0),(35,0),(27,1),(28,1),(36,1),(37,1),(38,1),(39,1),(40,0),(41,2)] (by exact Sub.d (.k (.k (.k (.k (.k (.k .rf))))))) ?_
    refine aw F aI (aw F aI (aw F aI (aw F aI (aw F (dX (i:=R2.length) x8 o5 F F (dT (mG 0)) Dl (by rw[mv (by simp;omega)];exact Dl)) (aw F (cS mr F F (dT (mG 0)) (Dd (by omega) ⟨cb,cc,l⟩)) (aw F aI (aw F aI (aw F (dX (i:=R2.length) x8 o5 F F (dT (mG 1)) (by omega) (by rw[oZ];exact E9)) (aw F (cS mr F F (dT (mG 1)) (oY E9)) (aw F aI (aw F (eA (i:=l.length) mr dh F F (dT (ao _ (ao _ (ao _ (aO _ (kz E9)))))) (by omega) (by rw[ik];omega)) (aw F (eW (vs:=a1.cells) gh F dh F F (bu _) (dT (ao _ (ao _ (ao _ (aO _ (kz E9)))))) (nJ ea1)) (aw F aI (aw F aI (aw F (dX (i:=R2.length) x8 o5 F F (dT (mG 1)) (by omega) (by rw[oZ];exact E9)) (aw F (cS mr F F (dT (mG 1)) (oY E9)) (aw F aI (aw F (eA (i:=k9) mr dh F F (dT (ao _ (ao _ (ao _ (aO _ (kz E9)))))) (by omega) (by rw[ik];omega)) (aw F (eW (vs:=a2.cells) gh F dh F F (bu _) (dT (ao _ (ao _ (ao _ (aO _ (kz E9)))))) (nJ ea2)) (aw F aI (aw F aI (aw F (dX (i:=k9) x8 o5 F F (dT (mG 1)) (by omega) (by rw[oZ];exact qi)) (aw F (cS mr F F (dT (mG 1)) (oY qi)) (aw F aI (aw F (eA (i:=k9) mr dh F F (dT (ao _ (ao _ (ao _ (aO _ (kz qi)))))) (by omega) (by rw[ik];omega)) (aw F (eW (vs:=a3.cells) gh F dh F F (bu _) (dT (ao _ (ao _ (ao _ (aO _ (kz qi)))))) (nJ ea3)) (aw F aI (aw F aI (aw F (dX (i:=k9) x8 o5 F F (dT (mG 1)) (by omega) (by rw[oZ];exact qi)) (aw F (cS mr F F (dT (mG 1)) (oY qi)) (aw F aI ?_)))))))))))))))))))))))))))))))
    refine aw F (eA (i:=l.length) mr dh F F (dT (ao _ (ao _ (ao _ (aO _ (kz qi)))))) (by omega) (by rw[ik];omega)) (aw F (eW (vs:=a4.cells) gh F dh F F (bu _) (dT (ao _ (ao _ (ao _ (aO _ (kz qi)))))) (nJ ea4)) ?_)
    refine cH F F (bm Yl (aX fun w1 hI=>(haveI:=ef hI;Ue w1 a3 (gm.sl (T:=72) hI (fun it fO=>ao _ (aO _ fO)) Yh) Yj)) ?_)
    rintro vr O' ⟨N,rfl,q1,c1,rfl,rfl,zP,Di⟩
    refine⟨nH _ (by exact Sub.d (.k (.k (.k (.k (.k (.k .rf))))))),?_⟩
    have PT:gm (q1++p3) c1.r:=v7 Di (fun x hx=>by simp only[dm,List.not_mem_nil,or_false]at hx;rcases hx with rfl;exact Yh)
    have Ym:fN c1.pp:=by rw[zP];exact x5 Yj
    have Dm:=Dm.mono (fun y hy=>ao q1 hy)
    have PZ:=PZ.mono (fun y hy=>ao q1 hy)
    have Jj:=Jj.mono (fun y hy=>ao q1 hy)
    let fe:List Lx.Item:=[av cb cc 69 2 (eL l),av (aD z9) M.next.length 75 1 (jh (R2++[⟨cb,cc,l⟩]) M.next.length),av ob oc 75 1 (k7 R),oI z3 69 c0.cells,av k2.nb k2.nc 56 1 (dG k2.qs),av k2.fb k2.fc 4 1 (cI M.a7),oI z2 25 (dC M k2)]
    refine eR (O':=(fe++((dy 72 q1)++(dy 72 p3++(eO 69 R2++(eO 69 R++cg 3 k2.qs)))))) (by exact fK [] _ (dy 72 q1) (dy 72 p3++(eO 69 R2++(eO 69 R++cg 3 k2.qs)))) ?_
    refine cH F F (bm Sh (aX fun w1 hI=>(haveI:=ef hI;Sd w1 a2 c1 (gm.sl (T:=72) hI (ly (fun it fO=>ao _ (aO _ fO)) (fun it fO=>ao _ (ao _ (aO _ fO)))) PZ) Yi (gm.sl (T:=72) hI (ly (fun it fO=>ao _ (aO _ fO)) (fun it fO=>ao _ (ao _ (aO _ fO)))) PT) Ym)) ?_)
    rintro vr O' ⟨N,rfl,q2,c2,rfl,rfl,qN,Di⟩
    refine⟨nH _ (fB eh fe (dy 72 q1) (dy 72 p3++(eO 69 R2++(eO 69 R++cg 3 k2.qs))) (by exact Sub.d (.k (.k (.k (.k (.k (.k .z)))))))),?_⟩
    have LD:gm (q2++(q1++p3)) c2.r:=v7 Di (fun x hx=>by simp only[dm,List.not_mem_nil,or_false]at hx;rcases hx with rfl|rfl;exact PZ;exact PT)
    have PW:fN c2.pp:=by rw[qN];exact rK Yi Ym
    have Dm:=Dm.mono (fun y hy=>ao q2 hy)
    have Jj:=Jj.mono (fun y hy=>ao q2 hy)
    refine eR (O':=(fe++((dy 72 q2)++((dy 72 q1)++(dy 72 p3++(eO 69 R2++(eO 69 R++cg 3 k2.qs))))))) (by exact fK [] _ (dy 72 q2) ((dy 72 q1)++(dy 72 p3++(eO 69 R2++(eO 69 R++cg 3 k2.qs))))) ?_
    refine cH F F (bm Sh (aX fun w1 hI=>(haveI:=ef hI;Sd w1 c2 a4 (gm.sl (T:=72) hI (ly (fun it fO=>ao _ (aO _ fO)) (ly (fun it fO=>ao _ (ao _ (aO _ fO))) (fun it fO=>ao _ (ao _ (ao _ (aO _ fO)))))) LD) PW (gm.sl (T:=72) hI (ly (fun it fO=>ao _ (aO _ fO)) (ly (fun it fO=>ao _ (ao _ (aO _ fO))) (fun it fO=>ao _ (ao _ (ao _ (aO _ fO)))))) Jj) Yk)) ?_)
    rintro vr O' ⟨N,rfl,q3,c3,rfl,rfl,hc3,Di⟩
    refine⟨nH _ ((fB eh eh (dy 72 q1) (dy 72 p3++(eO 69 R2++(eO 69 R++cg 3 k2.qs))) Sub.rf).trans (fB eh fe (dy 72 q2) ((dy 72 q1)++(dy 72 p3++(eO 69 R2++(eO 69 R++cg 3 k2.qs)))) (by exact Sub.d (.k (.k (.k (.k (.k (.k .z))))))))),?_⟩
    have PY:gm (q3++(q2++(q1++p3))) c3.r:=v7 Di (fun x hx=>by simp only[dm,List.not_mem_nil,or_false]at hx;rcases hx with rfl|rfl;exact LD;exact Jj)
    have acE:fN c3.pp:=by rw[hc3];exact rK PW Yk
    have Dm:=Dm.mono (fun y hy=>ao q3 hy)
    refine eR (O':=(fe++((dy 72 q3)++((dy 72 q2)++((dy 72 q1)++(dy 72 p3++(eO 69 R2++(eO 69 R++cg 3 k2.qs)))))))) (by exact fK [] _ (dy 72 q3) ((dy 72 q2)++((dy 72 q1)++(dy 72 p3++(eO 69 R2++(eO 69 R++cg 3 k2.qs)))))) ?_
    refine cH F F (bm LF (aX fun w1 hI=>(haveI:=ef hI;Ud w1 a1 c3 (gm.sl (T:=72) hI (ly (fun it fO=>ao _ (aO _ fO)) (ly (fun it fO=>ao _ (ao _ (aO _ fO))) (ly (fun it fO=>ao _ (ao _ (ao _ (aO _ fO)))) (fun it fO=>ao _ (ao _ (ao _ (ao _ (aO _ fO)))))))) Dm) acD (gm.sl (T:=72) hI (ly (fun it fO=>ao _ (aO _ fO)) (ly (fun it fO=>ao _ (ao _ (aO _ fO))) (ly (fun it fO=>ao _ (ao _ (ao _ (aO _ fO)))) (fun it fO=>ao _ (ao _ (ao _ (ao _ (aO _ fO)))))))) PY) acE)) ?_)
    rintro vr O' ⟨N,rfl,q4,c4,rfl,rfl,hc4,Di⟩
    refine⟨nH _ ((fB eh eh (dy 72 q1) (dy 72 p3++(eO 69 R2++(eO 69 R++cg 3 k2.qs))) Sub.rf).trans ((fB eh eh (dy 72 q2) ((dy 72 q1)++(dy 72 p3++(eO 69 R2++(eO 69 R++cg 3 k2.qs)))) Sub.rf).trans (fB eh fe (dy 72 q3) ((dy 72 q2)++((dy 72 q1)++(dy 72 p3++(eO 69 R2++(eO 69 R++cg 3 k2.qs))))) (by exact Sub.d (.k (.k (.k (.k (.k (.k .z)))))))))),?_⟩
    have acF:gm (q4++(q3++(q2++(q1++p3)))) c4.r:=v7 Di (fun x hx=>by simp only[dm,List.not_mem_nil,or_false]at hx;rcases hx with rfl|rfl;exact Dm;exact PY)
    have e9:c4.pp=mu M (k9+1) R2.length l.length:=by rw[hc4,hc3,qN,zP,Sg,Yg,ha3,ha4];rfl
    refine eR (O':=(fe++((dy 72 q4)++((dy 72 q3)++((dy 72 q2)++((dy 72 q1)++(dy 72 p3++(eO 69 R2++(eO 69 R++cg 3 k2.qs))))))))) (by exact fK [] _ (dy 72 q4) ((dy 72 q3)++((dy 72 q2)++((dy 72 q1)++(dy 72 p3++(eO 69 R2++(eO 69 R++cg 3 k2.qs))))))) ?_
    let wQ:Lx.Item:=av (aD z9) M.next.length 75 1 (jh (R2++[⟨cb,cc,l⟩]) M.next.length)
    refine cH F F (cK (m:=1) (parts:=[(0,_)]) (cs:=c4.cells) mr dh (by decide) (by kernel_rfl) F (fun xa=>⟨(fB eh eh (dy 72 q1) (dy 72 p3++(eO 69 R2++(eO 69 R++cg 3 k2.qs))) Sub.rf).trans ((fB eh eh (dy 72 q2) ((dy 72 q1)++(dy 72 p3++(eO 69 R2++(eO 69 R++cg 3 k2.qs)))) Sub.rf).trans ((fB eh eh (dy 72 q3) ((dy 72 q2)++((dy 72 q1)++(dy 72 p3++(eO 69 R2++(eO 69 R++cg 3 k2.qs))))) Sub.rf).trans (fB eh [av (aD xa) 1 69 2 c4.cells,av cb cc 69 2 (eL l),wQ,jX,iI,fh,fA,gP] (dy 72 q4) ((dy 72 q3)++((dy 72 q2)++((dy 72 q1)++(dy 72 p3++(eO 69 R2++(eO 69 R++cg 3 k2.qs)))))) (by exact Sub.d (.d (.k (.k (.k (.k (.k (.k .z))))))))))),?_⟩))
    refine cH F F (dq 1 mr mr dh F F F F (by rw[ik]) (by decide) (Src.row (j:=0) F (by simp)) (by simp[fF]) (by dsimp only;omega) (by decide) (by decide) (fun zr qK=>⟨(fB eh eh (dy 72 q1) (dy 72 p3++(eO 69 R2++(eO 69 R++cg 3 k2.qs))) Sub.rf).trans ((fB eh eh (dy 72 q2) ((dy 72 q1)++(dy 72 p3++(eO 69 R2++(eO 69 R++cg 3 k2.qs)))) Sub.rf).trans ((fB eh eh (dy 72 q3) ((dy 72 q2)++((dy 72 q1)++(dy 72 p3++(eO 69 R2++(eO 69 R++cg 3 k2.qs))))) Sub.rf).trans (fB eh [av (aD xa) 1 69 2 c4.cells,av zr qK 69 2 ((eL l)++c4.cells),wQ,jX,iI,fh,fA,gP] (dy 72 q4) ((dy 72 q3)++((dy 72 q2)++((dy 72 q1)++(dy 72 p3++(eO 69 R2++(eO 69 R++cg 3 k2.qs)))))) (by exact Sub.d (.d (.k (.k (.k (.k (.k (.k .z))))))))))),?_⟩))
    refine aw F (dX (i:=R2.length) x8 o5 F F (dT (mG 0)) Dl (by rw[mv (by simp;omega)];exact Dl)) ?_
    refine cy F F (n7 (j:=R2.length) (v:=(.slice zr (l.length+1) qK)) (vs:=[(.slice zr (l.length+1) qK)]) (cs:=jh (R2++[⟨cb,cc,l⟩]) M.next.length) 2 o5 F F F F F (by simp) F (by rw[mv (by simp;omega)];simp;omega) ?_)
    let pv:List Lx.Item:=[av (aD xa) 1 69 2 c4.cells,av zr qK 69 2 ((eL l)++c4.cells),av (aD z9) M.next.length 75 1 (jh (R2++[⟨zr,qK,l++[c4]⟩]) M.next.length),av ob oc 75 1 (k7 R),iI,fh,fA,gP]
    refine eR (O':=(pv++((dy 72 q4)++((dy 72 q3)++((dy 72 q2)++((dy 72 q1)++(dy 72 p3++(eO 69 R2++(eO 69 R++cg 3 k2.qs))))))))) (by rw[show eZ (jh (R2++[⟨cb,cc,l⟩]) M.next.length) R2.length [(.slice zr (l.length+1) qK)]=jh (R2++[⟨zr,qK,l++[c4]⟩]) M.next.length from(by rw[←AF (by omega) ⟨cb,cc,l⟩ ⟨zr,qK,l++[c4]⟩,show(⟨zr,qK,l++[c4]⟩:MR).val=.slice zr (l.length+1) qK by simp[MR.val]];rfl)];exact ck (aY _)) ?_
    refine eR (O':=(pv++(dy 72 (q4++(q3++(q2++(q1++p3))))++(eO 69 R2++(eO 69 R++cg 3 k2.qs))))) (by simp only[qI,a6];exact Sub.rf) ?_
    refine cA ?_
    refine bg (ae (dr (a:=l.length) (b:=1) F F (by omega)) (ai F (ah ?_)))
    have PU: ∀y∈p3,y∈(q4++(q3++(q2++(q1++p3)))):=fun y hy=>by simp[hy]
    exact⟨l++[c4],by simp;omega,[av zr qK 69 2 (eL (l++[c4])),av (aD z9) M.next.length 75 1 (jh (R2++[⟨zr,qK,l++[c4]⟩]) M.next.length),jX,iI,fh,fA,gP]++(dy 72 (q4++(q3++(q2++(q1++p3))))++(eO 69 R2++(eO 69 R++cg 3 k2.qs))),(by rw[tW];exact(by exact Sub.d (.k (.k (.k (.k (.k (.k (.k .rf))))))))),(q4++(q3++(q2++(q1++p3)))),zr,qK,F,by simp;omega,(hl.mono PU).snoc e9 acF,Yf.mono PU,AG.mono PU,qL.mono PU,⟨F,F,F,F,F,F,F,F,F,F,F,F,F,F,F,F,F,(au (fun n9:Nat=>Value.int .i64 ((n9:Nat):Int)) (show l.length+1=(l++[c4]).length by simp)),trivial⟩⟩
   have acG: ¬l.length<M.next.length:=by omega
   refine cG ?_
   refine bg (ae (dr (a:=R2.length) (b:=1) F F (by omega)) (ai F (ah ?_)))
   have Ku:l.length=M.next.length:=by omega
   exact⟨R2++[⟨cb,cc,l⟩],by simp;omega,[av (aD z9) M.next.length 75 1 (jh (R2++[⟨cb,cc,l⟩]) M.next.length),jX,iI,fh,fA,gP]++(dy 72 p3++(eO 69 (R2++[⟨cb,cc,l⟩])++(eO 69 R++cg 3 k2.qs))),(by rw[Db];exact v_ [av (aD z9) M.next.length 75 1 (jh (R2++[⟨cb,cc,l⟩]) M.next.length),av ob oc 75 1 (k7 R),oI z3 69 c0.cells,av k2.nb k2.nc 56 1 (dG k2.qs),av k2.fb k2.fc 4 1 (cI M.a7),oI z2 25 (dC M k2)] [av cb cc 69 2 (eL l),av (aD z9) M.next.length 75 1 (jh (R2++[⟨cb,cc,l⟩]) M.next.length),av ob oc 75 1 (k7 R),oI z3 69 c0.cells,av k2.nb k2.nc 56 1 (dG k2.qs),av k2.fb k2.fc 4 1 (cI M.a7),oI z2 25 (dC M k2)] (dy 72 p3) (eO 69 R2) (eO 69 R++cg 3 k2.qs) (av cb cc 69 2 (eL l)) (by exact Sub.dP [av cb cc 69 2 (eL l)] _ (.dP [av cb cc 69 2 (eL l)] _ (.dP [av cb cc 69 2 (eL l)] _ (.dP [av cb cc 69 2 (eL l)] _ (.dP [av cb cc 69 2 (eL l)] _ (.dP [av cb cc 69 2 (eL l)] _ (.k .z)))))))),p3,F,by simp;omega,Yf.snoc Ku hl,AG,qL,⟨F,F,F,F,F,F,F,F,F,F,F,F,F,F,(au (fun n9:Nat=>Value.int .i64 ((n9:Nat):Int)) (show R2.length+1=(R2++[(⟨cb,cc,l⟩:MR)]).length by simp)),trivial⟩⟩
  have aft: ¬R2.length<M.next.length:=by omega
  refine cG ?_
  refine bg (ai F (ak F (ah (bg (ae (dr (a:=k9) (b:=1) F F (by omega)) (ai F (ah ?_)))))))
  have Yn:R2.length=M.next.length:=by omega
  have acH:=AE Yn
  exact⟨k9+1,by omega,[av (aD z9) M.next.length 75 1 (k7 R2),iI,fh,fA,gP]++(dy 72 p2++(eO 69 R2++cg 3 k2.qs)),(by rw[←acH];exact De [av (aD z9) M.next.length 75 1 (jh R2 M.next.length),oI z3 69 c0.cells,av k2.nb k2.nc 56 1 (dG k2.qs),av k2.fb k2.fc 4 1 (cI M.a7),oI z2 25 (dC M k2)] [av (aD z9) M.next.length 75 1 (jh R2 M.next.length),av ob oc 75 1 (k7 R),oI z3 69 c0.cells,av k2.nb k2.nc 56 1 (dG k2.qs),av k2.fb k2.fc 4 1 (cI M.a7),oI z2 25 (dC M k2)] (dy 72 p2) (eO 69 R2) (eO 69 R) (cg 3 k2.qs) (by exact Sub.k (.d (.k (.k (.k (.k .z))))))),R2,p2,(aD z9),M.next.length,F,by omega,Yn,zu,qL,(.of F)⟩
 have afu: ¬k9<M.next.length:=by omega
 refine cG ?_
 refine aR ?_
 have Yo:k9=M.next.length:=by omega
 have Xh:0<R.length:=by omega
 refine bg (ae (eN 1 gh dh) (aq (bs dh (fun rL=>?_))))
 refine aq (cq (vs:=c0.cells) 0 dh ?_)
 refine ah (aR (aj (ae (bt dj dH) (ae (bq 5 eI) (ae (bL (cQ eI) (v':=vN M.next.length) (by rw[Jg.fin])) (ai F (ah (aV ?_))))))))
 let kn:Lx.Item:=av ob oc 75 1 (k7 R)
 refine dc (O':=([oI rL 69 c0.cells,kn,fh,fA]++(dy 72 p++(eO 69 R++cg 3 k2.qs)))) (by exact Sub.k (.k (.d (.k (.k (.d .rf)))))) ?_
 refine dZ (fun(t:Nat) ρ O=> ∃(p2:List ER) (po:PR),O=([oI rL 69 po.cells,kn,fh,fA]++(dy 72 p2++(eO 69 R++cg 3 k2.qs)))∧t≤M.next.length∧po.pp=zO M t∧gm p2 po.r∧qh R p2 M.next.length (mu M k9)∧df [(0,(dV d k)),(1,lm),(2,nS),(3,vI 0),(5,vI 0),(6,vI (M.next.length:Int)),(8,(.slice ob M.next.length oc)),(19,(.pointer (aD rL))),(151,(.slice k2.fb M.a7.length k2.fc)),(152,vN M.next.length),(153,vN t)] ρ) (fun t=>M.next.length-t) 0 ?_ ?_
 ·exact⟨p,c0,F,bl _,Ah,qL,hR,(.of F)⟩
 rintro t ρ O ⟨p2,po,rfl,ht,P0,P1,zu,hH⟩
 obtain⟨gA,rfl⟩:=hH.elim
 clear hH
 refine aj (ae cU (ah (aR (aZ F (fun hc=>?_) (fun hc=>?_)))))
 ·have BA:t<M.next.length:=by omega
  obtain⟨a5,ea5,ha5,Yp⟩:=zu.at Xh BA
  have acI:fN a5.pp:=by rw[ha5];exact iT PS _ _ _
  have acJ:fN po.pp:=by rw[P0];exact rM PS _
  have ahG:=zu.len _ (aN Xh)
  refine aL (aR (aV (aj (ai F (ae (dX (i:=t) eI fC F F (dT (mG 3)) (by rw[Jg.fin];exact BA) (by rw[ar,Jg.fin];exact BA)) (ae (cS BB F F (dT (mG 3)) (pC Jg BA)) (ak F (ak F (ah (aj (ai F (ah (T.cond F (fun hc=>?_) (fun hc=>?_))))))))))))))
  ·have TU:dF M t=true:=hc
   refine fS [(0,0),(1,0),(2,0),(3,0),(4,0),(5,0),(6,0),(7,2),(8,2)] ?_
   refine aw F (eN 0 gh dh) (aw F aI (aw F (dX (i:=0) x8 o5 F F (dT (mG 1)) (by omega) (by rw[oZ];exact Xh)) (aw F (cS mr F F (dT (mG 1)) (oY Xh)) (aw F aI (aw F (eA (i:=t) mr dh F F (dT (ao _ (ao _ (aO _ (kz Xh))))) (by omega) (by rw[ik];omega)) (aw F (eW (vs:=a5.cells) gh F dh F F (bu _) (dT (ao _ (ao _ (aO _ (kz Xh))))) (nJ ea5)) ?_))))))
   refine cy F F (bm LF (aX fun w1 hI=>(haveI:=ef hI;Ud w1 po a5 (gm.sl (T:=72) hI (fun it fO=>ao _ (aO _ fO)) P1) acJ (gm.sl (T:=72) hI (fun it fO=>ao _ (aO _ fO)) Yp) acI)) ?_)
   rintro vr O' ⟨N,rfl,q6,c6,rfl,rfl,hc6,Di⟩
   have acK:gm (q6++p2) c6.r:=v7 Di (fun x hx=>by simp only[dm,List.not_mem_nil,or_false]at hx;rcases hx with rfl|rfl;exact P1;exact Yp)
   
   refine eR (O':=([oI rL 69 po.cells,kn,fh,fA]++((dy 72 q6)++(dy 72 p2++(eO 69 R++cg 3 k2.qs))))) (by exact fK [] _ (dy 72 q6) (dy 72 p2++(eO 69 R++cg 3 k2.qs))) ?_
   refine cy F F (cq (vs:=c6.cells) 0 dh ?_)
   refine eR (O':=([oI rL 69 c6.cells,kn,fh,fA]++(dy 72 (q6++p2)++(eO 69 R++cg 3 k2.qs)))) (by simp only[qI,a6];exact Sub.rf) ?_
   refine cA ?_
   refine bg (ae (dr (a:=t) (b:=1) F F (by omega)) (ai F (ah ?_)))
   have e9:c6.pp=zO M (t+1):=by rw[hc6,P0,ha5,Yo,zO,aJ TU]
   exact⟨t+1,by omega,[oI rL 69 c6.cells,kn,fh,fA]++(dy 72 (q6++p2)++(eO 69 R++cg 3 k2.qs)),(by exact Sub.rf),(q6++p2),c6,F,by omega,e9,acK,zu.mono (fun y hy=>ao _ hy),(.of F)⟩
  have TU: ¬dF M t=true:=by rw[hc];simp
  refine aL (bg (ae (dr (a:=t) (b:=1) F F (by omega)) (ai F (ah ?_))))
  exact⟨t+1,by omega,[oI rL 69 po.cells,kn,fh,fA]++(dy 72 p2++(eO 69 R++cg 3 k2.qs)),(by exact Sub.rf),p2,po,F,by omega,by rw[zO,aA TU];exact P0,P1,zu,(.of F)⟩
 have acL: ¬t<M.next.length:=by omega
 refine cG ?_
 refine aR (aj (ae (bt gh oo) (ae (bq 0 u_) (ae bK (ah (aZ F (fun hc=>?_) (fun hc=>?_)))))))
 ·have Uf:po.k=3:=by omega
  have wg:po.pp=FJ M:=by rw[P0,show t=M.next.length by omega];rfl
  refine aR (T.fq 72 5 ?_)
  refine bg (ak F (ak F (ah (aM (aB ?_)))))
  refine de nS (vI 4) results14 F F ?_
  have h3:(FJ M).1=3:=by rw[←wg];exact Uf
  have e1:Lu M=[]:=aJ h3
  have e2:PN M=4:=aJ h3
  exact⟨[av none 0 72 5 []],(by exact Sub.k .z),none,0,by rw[e1,e2];rfl,by rw[e1];rfl⟩
 have Ug: ¬po.k=3:=by omega
 have wg:po.pp=FJ M:=by rw[P0,show t=M.next.length by omega];rfl
 refine aL (aj (ae (bt gh il) (ae (bq 0 dR) (ak F (ak F (ah (aM (aB ?_))))))))
 refine de (.slice po.r.b po.r.e.length po.r.c) (vI 0) results14 F F ?_
 have h3: ¬(FJ M).1=3:=by rw[←wg];exact Ug
 have e1:Lu M=po.r.e:=(aA h3).trans (by rw[←wg];rfl)
 have e2:PN M=0:=aA h3
 have pL:po.r.e≠ []:=by
  have:=(rM (m:=M) PS M.next.length).ne h3
  rw[show zO M M.next.length=po.pp from wg.symm]at this;exact this
 exact⟨[po.r.qt 72],ck (List.singleton_sublist.2 (ao _ (aO _ (List.mem_map.2 ⟨po.r,P1.resolve_right pL,F⟩)))),po.r.b,po.r.c,by rw[e1,e2];rfl,by rw[e1];rfl⟩
end Go.Proofs.YtgdbfideeeegmaaGreatDoor

namespace Go.Lx
open Go.RowKit Go.Proofs.YtgdbfideeeegmaaGreatDoor
theorem sg {v:Nat} (hv:v≤6): ∀ {t:Rx},t.plain=true→t.sz≤7→kv v t 4096
 | .none,_,_=>bo (HasL.not (eV hv) (by decide)).len (by decide)
 | .empty,_,_=>bo ((ot (fY 0 0) hv (bl 1)).p9).len (by decide)
 | .letter p n,_,_=>bo ((ot (fY p n) hv (aS 1)).p9).len (by decide)
 | .not a,hp,hs=>by
  have hs:a.sz+1≤7:=hs
  have ih:=sg hv (t:=a) hp (by omega)
  have h1:=f_ hv (aS 4096) (t:=a) hp ih (by omega)
  have h2:=j5 a.sz (by omega)
  have h3:=(di hv (aS 4096) (t:=a) hp ih).toHasL.JZ
  have h4:(minOf v (fx a)).next.length*(minOf v (fx a)).next.length≤8*8:=Nat.mul_le_mul (by omega) (by omega)
  exact⟨ih,bo (HasL.not h3 (by omega)).len (by omega)⟩
 | .star a,hp,hs=>by
  have hs:a.sz+1≤7:=hs
  have ih:=sg hv (t:=a) hp (by omega)
  have h1:=f_ hv (aS 4096) (t:=a) hp ih (by omega)
  have h2:=j5 a.sz (by omega)
  have h4:2^((minOf v (fx a)).next.length+1)≤2^9:=bV (by decide) (by omega)
  exact⟨ih,uj (di hv (aS 4096) (t:=a) hp ih).valid (by omega)⟩
 | .ie a b,hp,hs=>by
  have hs:a.sz+b.sz+1≤7:=hs
  simp only[Rx.plain,ay]at hp
  have pa:=a.eU;have pb:=b.eU
  have ia:=sg hv hp.1 (by omega)
  have ib:=sg hv hp.2 (by omega)
  have h1:=f_ hv (aS 4096) hp.1 ia (by omega)
  have h2:=f_ hv (aS 4096) hp.2 ib (by omega)
  have h6:tq a.sz*2^tq b.sz≤512:=by
   have: ∀i,i≤5→ ∀j,j≤5→tq i*2^tq j≤512:=by decide
   exact this _ (by omega) _ (by omega)
  have h7:(minOf v (fx a)).next.length*2^(minOf v (fx b)).next.length≤tq a.sz*2^tq b.sz:=Nat.mul_le_mul h1 (bV (by decide) h2)
  exact⟨ia,ib,kI (di hv (aS 4096) hp.1 ia).valid (di hv (aS 4096) hp.2 ib).valid (by omega)⟩
 | .iu a b,hp,hs=>by
  have hs:a.sz+b.sz+1≤7:=hs
  simp only[Rx.plain,ay]at hp
  have pa:=a.eU;have pb:=b.eU
  have ia:=sg hv hp.1 (by omega)
  have ib:=sg hv hp.2 (by omega)
  have h1:=bo (f_ hv (aS 4096) hp.1 ia (by omega)) (j5 _ (by omega))
  have h2:=bo (f_ hv (aS 4096) hp.2 ib (by omega)) (j5 _ (by omega))
  have h6:(minOf v (fx a)).next.length*(minOf v (fx b)).next.length≤8*8:=Nat.mul_le_mul h1 h2
  have ma:=di hv (aS 4096) hp.1 ia
  have mb:=di hv (aS 4096) hp.2 ib
  exact⟨ia,ib,Ck ma.valid mb.valid (by rw[ma.vars,mb.vars]) (aS _) (by omega)⟩
 | .and a b,hp,hs=>by
  have hs:a.sz+b.sz+1≤7:=hs
  simp only[Rx.plain,ay]at hp
  have pa:=a.eU;have pb:=b.eU
  have ia:=sg hv hp.1 (by omega)
  have ib:=sg hv hp.2 (by omega)
  have h1:=bo (f_ hv (aS 4096) hp.1 ia (by omega)) (j5 _ (by omega))
  have h2:=bo (f_ hv (aS 4096) hp.2 ib (by omega)) (j5 _ (by omega))
  have h6:(minOf v (fx a)).next.length*(minOf v (fx b)).next.length≤8*8:=Nat.mul_le_mul h1 h2
  have ma:=di hv (aS 4096) hp.1 ia
  have mb:=di hv (aS 4096) hp.2 ib
  exact⟨ia,ib,Ck ma.valid mb.valid (by rw[ma.vars,mb.vars]) (aS _) (by omega)⟩
 | .ahead a,hp,_=>absurd hp (by simp[Rx.plain])
 | .behind a,hp,_=>absurd hp (by simp[Rx.plain])
theorem Rf {α:Type} [Nonempty α] {G:α→Prop} {kf:α→Key} {nx:α→Nat→α} {fn:α→Bool} {L:Nat} (h:Q2 G kf nx fn L) {s:α} (Q:List α) (hG: ∀q∈Q,G q) (h0:s∈Q) (hc: ∀q∈Q,∀x,x<L→nx q x∈Q) {B:Nat} (hB:Q.length≤B):Ho (BP G kf nx) L (kf s) B:=by
 refine⟨Q.map kf,⟨List.mem_map.2 ⟨s,h0,F⟩,fun k hk x hx=>?_⟩,by simpa using hB⟩
 obtain⟨q,hq,rfl⟩:=List.mem_map.1 hk
 rw[sV h (hG q hq) hx]
 exact List.mem_map.2 ⟨_,hc q hq x hx,F⟩
section
variable {ls:List Lf}
structure AhP (ls:List Lf):Prop where
 len:ls.length=2
 o0:(lf ls 0).op=9
 f0:(lf ls 0).fo=[1]
 l0:(lf ls 0).la=false
 o1:(lf ls 1).op=0
 f1:(lf ls 1).fo=[]
 l1:(lf ls 1).la=true
def Pj (ls:List Lf) (bh:List Nat) (q:Nat) (o:List Ob):St:=⟨bh,⟨1,q,o⟩::(if dF (lf ls 1).d q=true then[⟨-1,0,o⟩]else[])⟩
theorem H8 (c:Cf) (f:Bool) (o:List Ob) (h:c.k≠ -1):((c::(if f=true then[(⟨-1,0,o⟩:Cf)]else[])).foldl add [])=c::(if f=true then[⟨-1,0,o⟩]else[]):=by
 cases f with
 |false=>rfl
 |true=>
  show add (add [] c) ⟨-1,0,o⟩=_
  have e:add [] c=[c]:=by unfold add;rw[aA (by simp)];rfl
  rw[e];unfold add
  rw[aA (by rw[da];intro e2;exact h (by rw[←e2]))]
  rfl
theorem Ez (h:AhP ls) (f:Nat) (bh:List Nat) (o:List Ob):fX ls (f+1) bh 1 o=[⟨-1,0,o⟩]:=by
 unfold fX;rw[h.f1,h.l1];rfl
theorem NV (h:AhP ls):gW ls [0]=Pj ls (ls.map fun l=>l.d.start.toNat) (lf ls 1).d.start.toNat (nR ls [] (0,(lf ls 0).d.start.toNat)):=by
 have e:fw ls (2*ls.length) (ls.map fun l=>l.d.start.toNat) 0 []=⟨1,(lf ls 1).d.start.toNat,nR ls [] (0,(lf ls 0).d.start.toNat)⟩::(if dF (lf ls 1).d (lf ls 1).d.start.toNat=true then[⟨-1,0,nR ls [] (0,(lf ls 0).d.start.toNat)⟩]else[]):=by
  rw[h.len]
  show fw ls (3+1) _ 0 []=_
  unfold fw
  rw[aJ h.o0]
  show fX ls (2+1) _ 0 _=_
  unfold fX
  rw[h.f0,h.l0]
  show(fw ls (1+1) _ 1 _++[])++[]=_
  rw[c_,c_]
  unfold fw
  rw[aA (by rw[h.o1];decide),aA (by rw[h.o1];decide),Ez h 0]
  rfl
 unfold gW Pj
 rw[show([0]:List Nat).flatMap (fun k=>fw ls (2*ls.length) (ls.map fun l=>l.d.start.toNat) k [])=fw ls (2*ls.length) (ls.map fun l=>l.d.start.toNat) 0 [] by simp,e,H8 _ _ _ (by show(1:Int)≠ -1;decide)]
theorem Rg (h:AhP ls) (bh:List Nat) (q:Nat) (o:List Ob) (x:Nat):jj ls (Pj ls bh q o) x=Pj ls [0,0] (eS (lf ls 1).d q x) (lG ls o x):=by
 have eb:iQ ls bh x=[0,0]:=by
  unfold iQ
  rw[h.len,show List.range 2=[0,1]from F]
  simp only[cD,fV,h.o0,h.o1]
  rfl
 have e1:gZ ls [0,0] x ⟨1,q,o⟩=⟨1,eS (lf ls 1).d q x,lG ls o x⟩::(if dF (lf ls 1).d (eS (lf ls 1).d q x)=true then[⟨-1,0,lG ls o x⟩]else[]):=by
  unfold gZ
  rw[aA (by show¬(1:Int)<0;decide)]
  have e2:fX ls (2*ls.length) [0,0] 1 (lG ls o x)=[⟨-1,0,lG ls o x⟩]:=by rw[h.len];exact Ez h 3 _ _
  show _::(if _ then fX ls (2*ls.length) [0,0] 1 (lG ls o x)else[])=_
  rw[e2];rfl
 have e3:((Pj ls bh q o).cf.flatMap (gZ ls [0,0] x))=gZ ls [0,0] x ⟨1,q,o⟩:=by
  unfold Pj
  rw[List.flatMap_cons]
  have:(if dF (lf ls 1).d q=true then[(⟨-1,0,o⟩:Cf)]else[]).flatMap (gZ ls [0,0] x)=[]:=by
   split
   ·show gZ ls [0,0] x ⟨-1,0,o⟩++[]=[]
    unfold gZ;rw[aJ (by show(-1:Int)<0;decide)];rfl
   ·rfl
  rw[this,c_]
 unfold jj
 rw[show(Pj ls bh q o).bh=bh from F,eb,e3,e1]
 unfold Pj
 rw[H8 _ _ _ (by show(1:Int)≠ -1;decide)]
theorem Uu {vs:Nat} (hG:iB ls vs) (h:AhP ls) {B:Nat} (hB:2*((lf ls 1).d.next.length*((lf ls 0).d.next.length+1))≤B):Ho (BP (kE ls) St.key (jj ls)) (2^vs) (gW ls [0]).key B:=by
 obtain⟨b0,G8⟩: ∃b,b=ls.map fun l=>l.d.start.toNat:=⟨_,F⟩
 have k0:0<ls.length:=by rw[h.len];decide
 have k1:1<ls.length:=by rw[h.len];decide
 obtain⟨os,J0⟩: ∃os:List (List Ob),os=[]::(List.range (lf ls 0).d.next.length).map fun q=>[(0,q)]:=⟨_,F⟩
 have hom: ∀o,o∈os↔o=[]∨ ∃q,q<(lf ls 0).d.next.length∧o=[(0,q)]:=fun o=>by
  rw[J0,dm,iF]
  exact or_congr Iff.rfl ⟨fun⟨q,h1,h2⟩=>⟨q,List.mem_range.1 h1,h2.symm⟩,fun⟨q,h1,h2⟩=>⟨q,List.mem_range.2 h1,h2.symm⟩⟩
 have aaE: ∀q,q<(lf ls 0).d.next.length→nR ls [] (0,q)∈os:=fun q hq=>by
  rw[hom];unfold nR;split
  ·exact .inl F
  ·exact .inr ⟨q,hq,F⟩
 have Vu: ∀o∈os,gd ls 1 o:=fun o ho=>by
  rcases(hom o).1 ho with rfl|⟨q,hq,rfl⟩
  ·exact .nil
  ·exact⟨List.pairwise_singleton _ _,fun p hp=>by rw[List.mem_singleton.1 hp];exact⟨Nat.zero_lt_one,hq⟩⟩
 have Pb: ∀o∈os,∀x,x<2^vs→lG ls o x∈os:=fun o ho x hx=>by
  rcases(hom o).1 ho with rfl|⟨q,hq,rfl⟩
  ·exact(hom _).2 (.inl F)
  ·exact aaE _ ((hG.kp k0).toVal.gT hq (by rw[hG.vars _ (kq k0)];exact hx)).1
 obtain⟨Q,hQ⟩: ∃Q:List St,Q=[b0,[0,0]].flatMap fun b=>(List.range (lf ls 1).d.next.length).flatMap fun q=>os.map fun o=>Pj ls b q o:=⟨_,F⟩
 have hm: ∀s,s∈Q↔ ∃b q o,(b=b0∨b=[0,0])∧q<(lf ls 1).d.next.length∧o∈os∧s=Pj ls b q o:=fun s=>by
  rw[hQ]
  simp only[List.mem_flatMap,iF,e_,dm,List.not_mem_nil,or_false]
  constructor
  ·rintro⟨b,hb,q,hq,o,ho,rfl⟩;exact⟨b,q,o,hb,hq,ho,F⟩
  ·rintro⟨b,q,o,hb,hq,ho,rfl⟩;exact⟨b,hb,q,hq,o,ho,F⟩
 have s0:=ei (hG.kp k0).toVal
 have s1:=ei (hG.kp k1).toVal
 have n0:=(hG.kp k0).n0
 have n1:=(hG.kp k1).n0
 refine Rf (Ea hG) Q (fun s hs=>?_) ?_ (fun s hs x hx=>?_) ?_
 ·obtain⟨b,q,o,hb,hq,ho,rfl⟩:=(hm s).1 hs
  refine⟨?_,?_,fun c hc=>?_⟩
  ·rcases hb with rfl|rfl
   ·rw[G8];exact re hG
   ·refine⟨by rw[h.len];rfl,fun k hk=>?_⟩
    rw[h.len]at hk
    rcases(show k=0∨k=1 by omega)with rfl|rfl
    ·exact n0
    ·exact n1
  ·show(_::_:List Cf).Nodup
   split
   ·rw[List.nodup_cons]
    exact⟨by rw[da];intro e;have:=au Cf.k e;simp at this,by simp⟩
   ·simp
  ·rcases List.mem_cons.1 hc with rfl|hc
   ·exact .inr ⟨1,F,k1,hq,Vu o ho⟩
   ·split at hc
    ·rw[List.mem_singleton.1 hc];exact .inl ⟨F,F,(Vu o ho).mono (by omega)⟩
    ·simp at hc
 ·rw[NV h,hm]
  exact⟨_,_,_,.inl G8.symm,s1,aaE _ s0,F⟩
 ·obtain⟨b,q,o,hb,hq,ho,rfl⟩:=(hm s).1 hs
  rw[Rg h,hm]
  exact⟨_,_,_,.inr F,((hG.kp k1).toVal.gT hq (by rw[hG.vars _ (kq k1)];exact hx)).1,Pb o ho x hx,F⟩
 ·have:Q.length=2*((lf ls 1).d.next.length*((lf ls 0).d.next.length+1)):=by
   rw[hQ]
   have hl:os.length=(lf ls 0).d.next.length+1:=by rw[J0];simp
   simp only[List.flatMap_cons,List.flatMap_nil,c_,aP,List.length_flatMap,ar,hl]
   rw[show(fun _:Nat=>(lf ls 0).d.next.length+1)=Function.const Nat ((lf ls 0).d.next.length+1)from F,List.map_const,List.sum_replicate_nat,g_]
   omega
  omega
end
set_option maxRecDepth 100000
theorem aen {v:Nat} (hv:v≤6) (h7: ∀ {t:Rx},t.plain=true→t.sz≤7→kv v t 4096→(minOf v (fx t)).next.length≤11): ∀ {t:Rx},t.plain=true→t.sz≤8→kv v t 4096
 | .none,_,_=>bo (HasL.not (eV hv) (by decide)).len (by decide)
 | .empty,_,_=>bo ((ot (fY 0 0) hv (bl 1)).p9).len (by decide)
 | .letter p n,_,_=>bo ((ot (fY p n) hv (aS 1)).p9).len (by decide)
 | .not a,hp,hs=>by
  have hs:a.sz+1≤8:=hs
  have ih:=sg hv (t:=a) hp (by omega)
  have h1:=h7 (t:=a) hp (by omega) ih
  have h3:=(di hv (aS 4096) (t:=a) hp ih).toHasL.JZ
  have h4:(minOf v (fx a)).next.length*(minOf v (fx a)).next.length≤11*11:=Nat.mul_le_mul h1 h1
  exact⟨ih,bo (HasL.not h3 (by omega)).len (by omega)⟩
 | .star a,hp,hs=>by
  have hs:a.sz+1≤8:=hs
  have ih:=sg hv (t:=a) hp (by omega)
  have h1:=h7 (t:=a) hp (by omega) ih
  have h4:2^((minOf v (fx a)).next.length+1)≤2^12:=bV (by decide) (by omega)
  exact⟨ih,uj (di hv (aS 4096) (t:=a) hp ih).valid (by omega)⟩
 | .ie a b,hp,hs=>by
  have hs:a.sz+b.sz+1≤8:=hs
  simp only[Rx.plain,ay]at hp
  have pa:=a.eU;have pb:=b.eU
  have ia:=sg hv hp.1 (by omega)
  have ib:=sg hv hp.2 (by omega)
  have h1:=f_ hv (aS 4096) hp.1 ia (by omega)
  have h2:=f_ hv (aS 4096) hp.2 ib (by omega)
  have h6:tq a.sz*2^tq b.sz≤2048:=by
   have: ∀i,i≤6→ ∀j,j≤6→tq i*2^tq j≤2048:=by decide
   exact this _ (by omega) _ (by omega)
  have h7:(minOf v (fx a)).next.length*2^(minOf v (fx b)).next.length≤tq a.sz*2^tq b.sz:=Nat.mul_le_mul h1 (bV (by decide) h2)
  exact⟨ia,ib,kI (di hv (aS 4096) hp.1 ia).valid (di hv (aS 4096) hp.2 ib).valid (by omega)⟩
 | .iu a b,hp,hs=>by
  have hs:a.sz+b.sz+1≤8:=hs
  simp only[Rx.plain,ay]at hp
  have pa:=a.eU;have pb:=b.eU
  have ia:=sg hv hp.1 (by omega)
  have ib:=sg hv hp.2 (by omega)
  have h1:=bo (f_ hv (aS 4096) hp.1 ia (by omega)) (j5 _ (by omega))
  have h2:=bo (f_ hv (aS 4096) hp.2 ib (by omega)) (j5 _ (by omega))
  have h6:(minOf v (fx a)).next.length*(minOf v (fx b)).next.length≤8*8:=Nat.mul_le_mul h1 h2
  have ma:=di hv (aS 4096) hp.1 ia
  have mb:=di hv (aS 4096) hp.2 ib
  exact⟨ia,ib,Ck ma.valid mb.valid (by rw[ma.vars,mb.vars]) (aS _) (by omega)⟩
 | .and a b,hp,hs=>by
  have hs:a.sz+b.sz+1≤8:=hs
  simp only[Rx.plain,ay]at hp
  have pa:=a.eU;have pb:=b.eU
  have ia:=sg hv hp.1 (by omega)
  have ib:=sg hv hp.2 (by omega)
  have h1:=bo (f_ hv (aS 4096) hp.1 ia (by omega)) (j5 _ (by omega))
  have h2:=bo (f_ hv (aS 4096) hp.2 ib (by omega)) (j5 _ (by omega))
  have h6:(minOf v (fx a)).next.length*(minOf v (fx b)).next.length≤8*8:=Nat.mul_le_mul h1 h2
  have ma:=di hv (aS 4096) hp.1 ia
  have mb:=di hv (aS 4096) hp.2 ib
  exact⟨ia,ib,Ck ma.valid mb.valid (by rw[ma.vars,mb.vars]) (aS _) (by omega)⟩
 | .ahead a,hp,_=>absurd hp (by simp[Rx.plain])
 | .behind a,hp,_=>absurd hp (by simp[Rx.plain])
end Go.Lx


/- Contracts of functions; conditions: those each theorem names. -/
import Derived.Test.YtgdbfideeeegmaaGreatDoorA9
set_option linter.unusedSectionVars false
set_option linter.unusedSimpArgs false
set_option linter.unusedVariables false
set_option linter.unnecessarySimpa false
set_option maxHeartbeats 8000000
set_option maxRecDepth 20000
namespace Go.Proofs.YtgdbfideeeegmaaGreatDoor
open Go.Lx Go.RowKit _root_.Go.Proofs.Tryz
theorem yV (w:World) [dQ prog w] (k:Nat) (x:ei):
  cB prog 39 [v8 k,x.ag] w (Yk 72 [] (k,[x])):=by
 refine aA func39 F ntmps39 F ?_
 refine aQ (ax (ef x.cl (fun z1=>?_)))
 refine ax (b_ dv (fun z2=>?_))
 refine bi (bo (eR 1 dz cR) (ax (cP (m:=1) (parts:=[(0,_)]) (cs:=x.cl) dX cR (by decide) (by kernel_rfl) F (fun z3=>?_))))
 refine ae (dc [v8 k,(.slice (aD z3) 1 1)] rE dv (by kernel_rfl)) (ax (c8 [v8 k,(.slice (aD z3) 1 1)] 1 dv ?_))
 refine dP ?_
 refine cQ (i:=1) results39 gC F dv F F F ?_
 exact⟨[bJ z3 1 72 5 x.cl],(by exact Sub.k .z),[⟨(aD z3),1,[x]⟩],⟨k,⟨(aD z3),1,[x]⟩⟩,F,F,F,.inl (.inl (List.mem_singleton.2 F))⟩
theorem nD {s:Nat} {x:ei} (h:x.op=7∨x.op=8):eG s x=⟨x.op,x.p,x.n,x.a+s,x.b⟩:=aB h
theorem nE {s:Nat} {x:ei} (h:x.op=4∨x.op=5∨x.op=6):eG s x=⟨x.op,x.p,x.n,x.a+s,x.b+s⟩:=by unfold eG;rw[aq (by omega),aB h]
theorem qp {s:Nat} {x:ei} (h: ¬(x.op=7∨x.op=8)) (h2: ¬(x.op=4∨x.op=5∨x.op=6)):eG s x=⟨x.op,x.p,x.n,x.a,x.b⟩:=by unfold eG;rw[aq h,aq h2]
theorem Bn {op:Nat} {out:List ei} (h:64<out.length):J5 op out=(3,[]):=aB h
theorem DM {op:Nat} {out:List ei} (h: ¬64<out.length):J5 op out=(0,out):=aq h
theorem Gu {op:Nat} {a:PR} (ha: ¬a.k=3) (h:64<a.r.e.length+1):rC op a.pp=(3,[]):=(aq ha).trans (Bn (show 64<(a.r.e++[_]).length by simpa using h))
theorem J6 {op:Nat} {a:PR} (ha: ¬a.k=3) (h: ¬64<a.r.e.length+1):rC op a.pp=(0,a.r.e++[⟨op,0,0,(a.r.e.length:Int)-1,0⟩]):=(aq ha).trans (DM (show¬64<(a.r.e++[_]).length by simpa using h))
theorem Gv {op:Nat} {a b:PR} (ha: ¬a.k=3) (hb: ¬b.k=3) (h:64<a.r.e.length+b.r.e.length+1):pw op a.pp b.pp=(3,[]):=(aq (fun h=>h.elim ha hb)).trans (Bn (show 64<(a.r.e++b.r.e.map _++[_]).length by simpa[Nat.add_assoc]using h))
theorem J7 {op:Nat} {a b:PR} (ha: ¬a.k=3) (hb: ¬b.k=3) (h: ¬64<a.r.e.length+b.r.e.length+1):pw op a.pp b.pp=(0,a.r.e++b.r.e.map (eG a.r.e.length)++[⟨op,0,0,(a.r.e.length:Int)-1,((a.r.e.length+b.r.e.length:Nat):Int)-1⟩]):=(aq (fun h=>h.elim ha hb)).trans (DM (show¬64<(a.r.e++b.r.e.map _++[_]).length by simpa[Nat.add_assoc]using h))
theorem ke {e:List ei} {j:Nat} (h:j<e.length) (g:ei→ei):(e.take (j+1)).map g=(e.take j).map g++[g e[j]]:=by rw[aC h,bm];rfl
theorem Vn (w:World) [dQ prog w] (op:Nat) (tb:Option Addr) (tc:Nat) (a:PR) (hT:Sl w tb (eW [a])) (ha:Sl w a.r.b (bX a.r.e)) (Db:fZ a.pp):
  cB prog 68 [v8 op,(.slice tb 1 tc)] w (Yk 72 [a] (rC op a.pp)):=by
 refine aA func68 F ntmps68 F ?_
 refine aQ (ax (b_ dv (fun z1=>?_)))
 refine xU (aj (aG (uL (cs:=[(vI 0),(vI 0)]) uQ bM vY (by kernel_rfl)) (ax (b_ vY (fun z2=>?_)))))
 refine ax (c8 [(vI 0),(vI 0)] 0 vY ?_)
 refine bq (ay (cg (cL mW) (v':=vI 1) F) (bH (aK ?_)))
 refine qn 2 (T.round ?_)
 refine aG (eT cV (b':=true) F) (dJ ?_)
 refine bW ?_
 refine aE (br (aK (bo (eF (i:=0) mW dv F F (a6 hT) (by simp) (by rw[iJ];simp)) (ae (fy a.cells gC F dv F F (bK _) (a6 hT) (oS (l:=[a]) (i:=0) (by simp))) (ax (b_ dv (fun z3=>?_)))))))
 refine aS (ax (c8 a.cells 0 dv ?_))
 refine bq (ae (bu gC oT) (ae (bF 0 vZ) (aX bN (aL F (fun hc=>?_) (fun hc=>?_)))))
 ·have tx:a.k=3:=by omega
  refine aG (dc [.int .u8 3,nS] rE dv (by kernel_rfl)) (ax (c8 [.int .u8 3,nS] 2 dv ?_))
  refine dP ?_
  refine cQ (i:=2) results68 gC F dv F F F ?_
  exact⟨[],Sub.z,[],⟨3,⟨none,0,[]⟩⟩,F,F,(aB tx).symm,.inl (.inr F)⟩
 have yW: ¬a.k=3:=by omega
 have Vo: ¬a.k=3:=yW
 refine aE (bo (cL dX) (aS (bq (ae (bu gC iK) (ae (bF 0 dX) (ae (cL dX) (bH (aK (T.fJ 72 5 ?_)))))))))
 refine ep (fun(j1:Nat) ρ O=> ∃(oa:Option Addr) (ka:Nat),O=[az oa ka 72 5 (bX ((a.r.e.take j1).map (eG 0))),oI z3 69 a.cells,oI z2 153 [(vI 0),(vI 0)],oI z1 69 [(.int .u8 0),nS]]∧j1≤a.r.e.length∧dh [(0,v8 op),(1,(.slice tb 1 tc)),(4,(.pointer (aD z1))),(5,(.slice oa (((a.r.e.take j1).map (eG 0)).length) ka)),(6,(.pointer (aD z2))),(7,vI 0),(8,(.pointer (aD z3))),(9,vI (0:Int)),(12,(.agg #[(vI 0),(vI 0)])),(13,(.slice tb 1 tc)),(14,vI 1),(15,vI 0),(27,(.slice a.r.b a.r.e.length a.r.c)),(28,vI (a.r.e.length:Int)),(29,vN j1)] ρ) (fun j1=>a.r.e.length-j1) 0 ?_ ?_
 ·exact⟨none,0,F,bj _,(.of F)⟩
 rintro j1 ρ O ⟨oa,ka,rfl,hj,hH⟩
 obtain⟨gv,rfl⟩:=hH.elim
 clear hH
 refine aG cV (dJ (aL F (fun hc=>?_) (fun hc=>?_)))
 ·have jx:j1<a.r.e.length:=by omega
  have FX:AA a.r.e.length a.r.e[j1]:=Db.pc _ (av jx)
  have Yh:=FX.a0;have Bi:=FX.a1;have FY:=FX.b0;have hp4:=FX.b1
  have hp5:a.r.e.length≤64:=Db.len
  refine aE (br (aK (aQ ?_)))
  refine ae (eF (i:=j1) dX cR F F (a6 ha) jx (by rw[cE];omega)) (ae (fy (a.r.e[j1].cl) dz F cR F F (bK _) (a6 ha) (gk (ak jx))) ?_)
  refine ax (b_ cR (fun z4=>?_))
  refine ax (c8 (a.r.e[j1].cl) 0 cR ?_)
  refine bi ?_
  refine fF (fun ρ O=>Sub [oI z4 72 (eG 0 a.r.e[j1]).cl,az oa ka 72 5 (bX ((a.r.e.take j1).map (eG 0))),oI z3 69 a.cells,oI z2 153 [(vI 0),(vI 0)],oI z1 69 [(.int .u8 0),nS]] O∧dh [(0,v8 op),(1,(.slice tb 1 tc)),(4,(.pointer (aD z1))),(5,(.slice oa (((a.r.e.take j1).map (eG 0)).length) ka)),(6,(.pointer (aD z2))),(7,vI 0),(8,(.pointer (aD z3))),(9,vI (0:Int)),(11,(.pointer (aD z4))),(12,(.agg #[(vI 0),(vI 0)])),(13,(.slice tb 1 tc)),(14,vI 1),(15,vI 0),(27,(.slice a.r.b a.r.e.length a.r.c)),(28,vI (a.r.e.length:Int)),(29,vN j1)] ρ) ?_ ?_
  ·refine br ?_
   refine a_ (ae (bu dz eN) (aX (bF 0 il) (aK ?_)))
   refine fF (fun ρ O=>Sub [oI z4 72 a.r.e[j1].cl,az oa ka 72 5 (bX ((a.r.e.take j1).map (eG 0))),oI z3 69 a.cells,oI z2 153 [(vI 0),(vI 0)],oI z1 69 [(.int .u8 0),nS]] O∧dh [(0,v8 op),(1,(.slice tb 1 tc)),(4,(.pointer (aD z1))),(5,(.slice oa (((a.r.e.take j1).map (eG 0)).length) ka)),(6,(.pointer (aD z2))),(7,vI 0),(8,(.pointer (aD z3))),(9,vI (0:Int)),(11,(.pointer (aD z4))),(12,(.agg #[(vI 0),(vI 0)])),(13,(.slice tb 1 tc)),(14,vI 1),(15,vI 0),(27,(.slice a.r.b a.r.e.length a.r.c)),(28,vI (a.r.e.length:Int)),(29,vN j1),(34,v8 (a.r.e[j1].op)),(35,.bool (decide (a.r.e[j1].op=7∨a.r.e[j1].op=8)))] ρ) ?_ ?_
   ·refine br ?_
    refine a_ (ae bN (aj (aL F (fun hc=>?_) (fun hc=>?_))))
    ·have DN:a.r.e[j1].op=7:=by omega
     refine aE ?_
     exact⟨(by exact Sub.rf),⟨F,F,F,F,F,F,F,F,F,F,F,F,F,F,F,F,F,(am Value.bool (decide_eq_decide.2 (by omega))),trivial⟩⟩
    have DP: ¬a.r.e[j1].op=7:=by omega
    refine a_ (ae bN (aj ?_))
    exact⟨(by exact Sub.rf),⟨F,F,F,F,F,F,F,F,F,F,F,F,F,F,F,F,F,(am Value.bool (decide_eq_decide.2 (by omega))),trivial⟩⟩
   rintro ρ O ⟨hS,hH⟩
   obtain⟨gv,rfl⟩:=hH.elim
   clear hH
   refine dq hS ?_
   refine aL F (fun hc=>?_) (fun hc=>?_)
   ·refine a_ ?_
    refine ae (bu dz bM) (ae (bF 0 eO) (ay (jW F F (by omega)) (ae (bu dz bM) (ax (c8 [(vI (a.r.e[j1].a+(0:Int)))] 0 bM ?_)))))
    refine bi ?_
    exact⟨(by first|(rw[nD (by omega)];exact Sub.rf)|(rw[nE (by omega)];exact Sub.rf)|(rw[qp (by omega) (by omega)];exact Sub.rf)),(.of F)⟩
   refine fF (fun ρ O=>Sub [oI z4 72 a.r.e[j1].cl,az oa ka 72 5 (bX ((a.r.e.take j1).map (eG 0))),oI z3 69 a.cells,oI z2 153 [(vI 0),(vI 0)],oI z1 69 [(.int .u8 0),nS]] O∧dh [(0,v8 op),(1,(.slice tb 1 tc)),(4,(.pointer (aD z1))),(5,(.slice oa (((a.r.e.take j1).map (eG 0)).length) ka)),(6,(.pointer (aD z2))),(7,vI 0),(8,(.pointer (aD z3))),(9,vI (0:Int)),(11,(.pointer (aD z4))),(12,(.agg #[(vI 0),(vI 0)])),(13,(.slice tb 1 tc)),(14,vI 1),(15,vI 0),(27,(.slice a.r.b a.r.e.length a.r.c)),(28,vI (a.r.e.length:Int)),(29,vN j1),(35,.bool (decide (a.r.e[j1].op=7∨a.r.e[j1].op=8))),(43,.bool (decide (a.r.e[j1].op=4∨a.r.e[j1].op=5∨a.r.e[j1].op=6)))] ρ) ?_ ?_
   ·refine br ?_
    refine a_ (ae bN (aj (aL F (fun hc=>?_) (fun hc=>?_))))
    ·have pz:a.r.e[j1].op=4:=by omega
     refine aE ?_
     exact⟨(by exact Sub.rf),⟨F,F,F,F,F,F,F,F,F,F,F,F,F,F,F,F,F,(am Value.bool (decide_eq_decide.2 (by omega))),trivial⟩⟩
    have yX: ¬a.r.e[j1].op=4:=by omega
    refine aG bN (aj (aL F (fun hc=>?_) (fun hc=>?_)))
    ·have pz:a.r.e[j1].op=5:=by omega
     refine aE ?_
     exact⟨(by exact Sub.rf),⟨F,F,F,F,F,F,F,F,F,F,F,F,F,F,F,F,F,(am Value.bool (decide_eq_decide.2 (by omega))),trivial⟩⟩
    have yX: ¬a.r.e[j1].op=5:=by omega
    refine a_ (ae bN (aj ?_))
    exact⟨(by exact Sub.rf),⟨F,F,F,F,F,F,F,F,F,F,F,F,F,F,F,F,F,(am Value.bool (decide_eq_decide.2 (by omega))),trivial⟩⟩
   rintro ρ O ⟨hS,hH⟩
   obtain⟨gv,rfl⟩:=hH.elim
   clear hH
   refine dq hS ?_
   refine aL F (fun hc=>?_) (fun hc=>?_)
   ·refine a_ ?_
    refine ae (bu dz bM) (ae (bF 0 eO) (ay (jW F F (by omega)) (ae (bu dz bM) (ae (bF 0 eO) (ay (jW F F (by omega)) (ae (bu dz bM) (ax (c8 [(vI (a.r.e[j1].a+(0:Int)))] 0 bM ?_))))))))
    refine ae (bu dz bM) (ax (c8 [(vI (a.r.e[j1].b+(0:Int)))] 0 bM ?_))
    refine bi ?_
    exact⟨(by first|(rw[nD (by omega)];exact Sub.rf)|(rw[nE (by omega)];exact Sub.rf)|(rw[qp (by omega) (by omega)];exact Sub.rf)),(.of F)⟩
   refine aE ?_
   exact⟨(by first|(rw[nD (by omega)];exact Sub.rf)|(rw[nE (by omega)];exact Sub.rf)|(rw[qp (by omega) (by omega)];exact Sub.rf)),(.of F)⟩
  rintro ρ O ⟨hS,hH⟩
  obtain⟨gv,rfl⟩:=hH.elim
  clear hH
  refine dq hS ?_
  refine a_ (ay (eR 0 dz cR) (ax (cP (m:=1) (parts:=[(0,_)]) (cs:=(eG 0 a.r.e[j1]).cl) dX cR (by decide) (by kernel_rfl) F (fun z5=>?_))))
  refine ax (dE 2 dX dX cR F F F F (by rw[cE]) (by decide) (Src.row (j:=0) F (by simp)) (by simp[fS]) (by simp only[dM,aJ,ai,db];omega) (by decide) (by decide) (fun z6 J8=>?_))
  refine aj (a_ (ae (dj (b:=1) j1 F F (by omega)) (bH ?_)))
  exact⟨j1+1,by omega,[az z6 J8 72 5 ((bX ((a.r.e.take j1).map (eG 0)))++(eG 0 a.r.e[j1]).cl),oI z3 69 a.cells,oI z2 153 [(vI 0),(vI 0)],oI z1 69 [(.int .u8 0),nS]],(by exact Sub.d (.d (.k (.k (.k (.k .z)))))),z6,J8,by rw[ke jx,mC (((a.r.e.take j1).map (eG 0)))];rfl,by omega,⟨F,F,F,(am (fun n9=>Value.slice z6 n9 J8) (show(((a.r.e.take j1).map (eG 0)).length)+1=(((a.r.e.take (j1+1)).map (eG 0))).length by rw[ke jx];simp only[aJ,bQ,dx]<;>omega)),F,F,F,F,F,F,F,F,F,F,F,trivial⟩⟩
 have H2: ¬j1<a.r.e.length:=by omega
 have Ql:j1=a.r.e.length:=by omega
 have Mp:0<a.r.e.length:=Db.pos Vo
 have hqa:a.r.e.length≤64:=Db.len
 have Yl:((a.r.e.take j1).map (eG 0))=a.r.e:=by rw[Ql,List.take_length,show eG 0=id from funext DJ,List.map_id]
 have MD:((a.r.e.take j1).map (eG 0)).length=a.r.e.length:=by rw[Ql];simp
 refine cD ?_
 refine a_ (aN (ay (cL dX) (ae (vW (a:=(((a.r.e.take j1).map (eG 0)).length)) (b:=1) F F (by omega) (by omega)) (ae (kn (i:=0) uQ bM F F (by decide)) (ax (c8 [(vN ((((a.r.e.take j1).map (eG 0)).length)-1))] 2 bM ?_))))))
 refine bi (a_ (ae (cg (jW F F (by omega)) (v':=vI 1) F) (bH ?_)))
 refine oP [az oa ka 72 5 (bX ((a.r.e.take j1).map (eG 0))),oI z3 69 a.cells,oI z2 153 [(vN ((((a.r.e.take j1).map (eG 0)).length)-1)),(vI 0)],oI z1 69 [(.int .u8 0),nS]] [(0,v8 op),(1,(.slice tb 1 tc)),(4,(.pointer (aD z1))),(5,(.slice oa (((a.r.e.take j1).map (eG 0)).length) ka)),(6,(.pointer (aD z2))),(7,vI 0),(8,(.pointer (aD z3))),(9,vI (0:Int)),(12,(.agg #[(vI 0),(vI 0)])),(13,(.slice tb 1 tc)),(14,vI 1),(15,vI 1)] F (.of F) (fun gv=>?_)
 refine T.round ?_
 refine aG (eT cV (b':=false) F) (dJ (bf ?_))
 refine cD ?_
 refine a7 (ay (kn (i:=0) uQ bM F F (by decide)) (ae (bF 2 eO) (ae (kn (i:=1) uQ bM F F (by decide)) (ae (bF 2 eO) (ae (dc [v8 op,(.int .u8 0),(.int .u8 0),(vN ((((a.r.e.take j1).map (eG 0)).length)-1)),(vI 0)] oe cR (by kernel_rfl)) (ax (cP (m:=1) (parts:=[(0,_)]) (cs:=[v8 op,(.int .u8 0),(.int .u8 0),(vN ((((a.r.e.take j1).map (eG 0)).length)-1)),(vI 0)]) dX cR (by decide) (by kernel_rfl) F (fun z8=>?_))))))))
 refine ax (dE 1 dX dX cR F F F F (by rw[cE]) (by decide) (Src.row (j:=0) F (by simp)) (by simp[fS]) (by simp only[dM,aJ,ai,db];omega) (by decide) (by decide) (fun z9 qq=>?_))
 refine aS (bq (ay (cL dX) (aX gT (aL F (fun hc=>?_) (fun hc=>?_)))))
 ·have ME:(((a.r.e.take j1).map (eG 0)).length)+1>64:=by omega
  have hL:=ME
  refine aG (dc [.int .u8 3,nS] rE dv (by kernel_rfl)) (ax (c8 [.int .u8 3,nS] 4 dv ?_))
  refine dP ?_
  refine cQ (i:=4) results68 gC F dv F F F ?_
  exact⟨[],Sub.z,[],⟨3,⟨none,0,[]⟩⟩,F,F,(Gu Vo (by rw[Yl]at hL;simpa using hL)).symm,.inl (.inr F)⟩
 have MF: ¬(((a.r.e.take j1).map (eG 0)).length)+1>64:=by omega
 have hL:=MF
 refine aE (bo (dc [(.int .u8 0),(.slice z9 ((((a.r.e.take j1).map (eG 0)).length)+1) qq)] rE dv (by kernel_rfl)) (ax (c8 [(.int .u8 0),(.slice z9 ((((a.r.e.take j1).map (eG 0)).length)+1) qq)] 4 dv ?_)))
 refine dP ?_
 refine cQ (i:=4) results68 gC F dv F F F ?_
 have Vp:=J6 (op:=op) Vo (by rw[Yl]at hL;simpa using hL)
 exact⟨[az z9 qq 72 5 ((bX ((a.r.e.take j1).map (eG 0)))++[v8 op,(.int .u8 0),(.int .u8 0),(vN ((((a.r.e.take j1).map (eG 0)).length)-1)),(vI 0)])],(by exact Sub.d (.k .z)),[⟨z9,qq,(rC op a.pp).2⟩],⟨0,⟨z9,qq,(rC op a.pp).2⟩⟩,am (fun n9=>Value.agg #[.int .u8 0,.slice z9 n9 qq]) (show(((a.r.e.take j1).map (eG 0)).length)+1=((rC op a.pp).2).length by rw[Vp,Yl];first|(simp;done)|(simp;omega)),am (fun z=>[az z9 qq 72 5 z]) (show(bX ((a.r.e.take j1).map (eG 0)))++[v8 op,(.int .u8 0),(.int .u8 0),(vN ((((a.r.e.take j1).map (eG 0)).length)-1)),(vI 0)]=bX ((rC op a.pp).2) by rw[Vp,Yl,mC];first|(simp[bX,ei.cells];done)|(simp[bX,ei.cells];omega)),by rw[Vp];rfl,.inl (.inl (List.mem_singleton.2 F))⟩
theorem MG (w:World) [dQ prog w] (op:Nat) (tb:Option Addr) (tc:Nat) (a b:PR) (hT:Sl w tb (eW [a,b])) (ha:Sl w a.r.b (bX a.r.e)) (Db:fZ a.pp) (hb:Sl w b.r.b (bX b.r.e)) (Tw:fZ b.pp):
  cB prog 68 [v8 op,(.slice tb 2 tc)] w (Yk 72 [a,b] (pw op a.pp b.pp)):=by
 refine aA func68 F ntmps68 F ?_
 refine aQ (ax (b_ dv (fun z1=>?_)))
 refine xU (aj (aG (uL (cs:=[(vI 0),(vI 0)]) uQ bM vY (by kernel_rfl)) (ax (b_ vY (fun z2=>?_)))))
 refine ax (c8 [(vI 0),(vI 0)] 0 vY ?_)
 refine bq (ay (cg (cL mW) (v':=vI 2) F) (bH (aK ?_)))
 refine qn 3 (T.round ?_)
 refine aG (eT cV (b':=true) F) (dJ ?_)
 refine bW ?_
 refine aE (br (aK (bo (eF (i:=0) mW dv F F (a6 hT) (by simp) (by rw[iJ];simp)) (ae (fy a.cells gC F dv F F (bK _) (a6 hT) (oS (l:=[a,b]) (i:=0) (by simp))) (ax (b_ dv (fun z3=>?_)))))))
 refine aS (ax (c8 a.cells 0 dv ?_))
 refine bq (ae (bu gC oT) (ae (bF 0 vZ) (aX bN (aL F (fun hc=>?_) (fun hc=>?_)))))
 ·have tx:a.k=3:=by omega
  refine aG (dc [.int .u8 3,nS] rE dv (by kernel_rfl)) (ax (c8 [.int .u8 3,nS] 2 dv ?_))
  refine dP ?_
  refine cQ (i:=2) results68 gC F dv F F F ?_
  exact⟨[],Sub.z,[],⟨3,⟨none,0,[]⟩⟩,F,F,(aB (.inl tx)).symm,.inl (.inr F)⟩
 have yW: ¬a.k=3:=by omega
 have Vo: ¬a.k=3:=yW
 refine aE (bo (cL dX) (aS (bq (ae (bu gC iK) (ae (bF 0 dX) (ae (cL dX) (bH (aK (T.fJ 72 5 ?_)))))))))
 refine ep (fun(j1:Nat) ρ O=> ∃(oa:Option Addr) (ka:Nat),O=[az oa ka 72 5 (bX ((a.r.e.take j1).map (eG 0))),oI z3 69 a.cells,oI z2 153 [(vI 0),(vI 0)],oI z1 69 [(.int .u8 0),nS]]∧j1≤a.r.e.length∧dh [(0,v8 op),(1,(.slice tb 2 tc)),(4,(.pointer (aD z1))),(5,(.slice oa (((a.r.e.take j1).map (eG 0)).length) ka)),(6,(.pointer (aD z2))),(7,vI 0),(8,(.pointer (aD z3))),(9,vI (0:Int)),(12,(.agg #[(vI 0),(vI 0)])),(13,(.slice tb 2 tc)),(14,vI 2),(15,vI 0),(27,(.slice a.r.b a.r.e.length a.r.c)),(28,vI (a.r.e.length:Int)),(29,vN j1)] ρ) (fun j1=>a.r.e.length-j1) 0 ?_ ?_
 ·exact⟨none,0,F,bj _,(.of F)⟩
 rintro j1 ρ O ⟨oa,ka,rfl,hj,hH⟩
 obtain⟨gv,rfl⟩:=hH.elim
 clear hH
 refine aG cV (dJ (aL F (fun hc=>?_) (fun hc=>?_)))
 ·have jx:j1<a.r.e.length:=by omega
  have FX:AA a.r.e.length a.r.e[j1]:=Db.pc _ (av jx)
  have Yh:=FX.a0;have Bi:=FX.a1;have FY:=FX.b0;have hp4:=FX.b1
  have hp5:a.r.e.length≤64:=Db.len
  refine aE (br (aK (aQ ?_)))
  refine ae (eF (i:=j1) dX cR F F (a6 ha) jx (by rw[cE];omega)) (ae (fy (a.r.e[j1].cl) dz F cR F F (bK _) (a6 ha) (gk (ak jx))) ?_)
  refine ax (b_ cR (fun z4=>?_))
  refine ax (c8 (a.r.e[j1].cl) 0 cR ?_)
  refine bi ?_
  refine fF (fun ρ O=>Sub [oI z4 72 (eG 0 a.r.e[j1]).cl,az oa ka 72 5 (bX ((a.r.e.take j1).map (eG 0))),oI z3 69 a.cells,oI z2 153 [(vI 0),(vI 0)],oI z1 69 [(.int .u8 0),nS]] O∧dh [(0,v8 op),(1,(.slice tb 2 tc)),(4,(.pointer (aD z1))),(5,(.slice oa (((a.r.e.take j1).map (eG 0)).length) ka)),(6,(.pointer (aD z2))),(7,vI 0),(8,(.pointer (aD z3))),(9,vI (0:Int)),(11,(.pointer (aD z4))),(12,(.agg #[(vI 0),(vI 0)])),(13,(.slice tb 2 tc)),(14,vI 2),(15,vI 0),(27,(.slice a.r.b a.r.e.length a.r.c)),(28,vI (a.r.e.length:Int)),(29,vN j1)] ρ) ?_ ?_
  ·refine br ?_
   refine a_ (ae (bu dz eN) (aX (bF 0 il) (aK ?_)))
   refine fF (fun ρ O=>Sub [oI z4 72 a.r.e[j1].cl,az oa ka 72 5 (bX ((a.r.e.take j1).map (eG 0))),oI z3 69 a.cells,oI z2 153 [(vI 0),(vI 0)],oI z1 69 [(.int .u8 0),nS]] O∧dh [(0,v8 op),(1,(.slice tb 2 tc)),(4,(.pointer (aD z1))),(5,(.slice oa (((a.r.e.take j1).map (eG 0)).length) ka)),(6,(.pointer (aD z2))),(7,vI 0),(8,(.pointer (aD z3))),(9,vI (0:Int)),(11,(.pointer (aD z4))),(12,(.agg #[(vI 0),(vI 0)])),(13,(.slice tb 2 tc)),(14,vI 2),(15,vI 0),(27,(.slice a.r.b a.r.e.length a.r.c)),(28,vI (a.r.e.length:Int)),(29,vN j1),(34,v8 (a.r.e[j1].op)),(35,.bool (decide (a.r.e[j1].op=7∨a.r.e[j1].op=8)))] ρ) ?_ ?_
   ·refine br ?_
    refine a_ (ae bN (aj (aL F (fun hc=>?_) (fun hc=>?_))))
    ·have DN:a.r.e[j1].op=7:=by omega
     refine aE ?_
     exact⟨(by exact Sub.rf),⟨F,F,F,F,F,F,F,F,F,F,F,F,F,F,F,F,F,(am Value.bool (decide_eq_decide.2 (by omega))),trivial⟩⟩
    have DP: ¬a.r.e[j1].op=7:=by omega
    refine a_ (ae bN (aj ?_))
    exact⟨(by exact Sub.rf),⟨F,F,F,F,F,F,F,F,F,F,F,F,F,F,F,F,F,(am Value.bool (decide_eq_decide.2 (by omega))),trivial⟩⟩
   rintro ρ O ⟨hS,hH⟩
   obtain⟨gv,rfl⟩:=hH.elim
   clear hH
   refine dq hS ?_
   refine aL F (fun hc=>?_) (fun hc=>?_)
   ·refine a_ ?_
    refine ae (bu dz bM) (ae (bF 0 eO) (ay (jW F F (by omega)) (ae (bu dz bM) (ax (c8 [(vI (a.r.e[j1].a+(0:Int)))] 0 bM ?_)))))
    refine bi ?_
    exact⟨(by first|(rw[nD (by omega)];exact Sub.rf)|(rw[nE (by omega)];exact Sub.rf)|(rw[qp (by omega) (by omega)];exact Sub.rf)),(.of F)⟩
   refine fF (fun ρ O=>Sub [oI z4 72 a.r.e[j1].cl,az oa ka 72 5 (bX ((a.r.e.take j1).map (eG 0))),oI z3 69 a.cells,oI z2 153 [(vI 0),(vI 0)],oI z1 69 [(.int .u8 0),nS]] O∧dh [(0,v8 op),(1,(.slice tb 2 tc)),(4,(.pointer (aD z1))),(5,(.slice oa (((a.r.e.take j1).map (eG 0)).length) ka)),(6,(.pointer (aD z2))),(7,vI 0),(8,(.pointer (aD z3))),(9,vI (0:Int)),(11,(.pointer (aD z4))),(12,(.agg #[(vI 0),(vI 0)])),(13,(.slice tb 2 tc)),(14,vI 2),(15,vI 0),(27,(.slice a.r.b a.r.e.length a.r.c)),(28,vI (a.r.e.length:Int)),(29,vN j1),(35,.bool (decide (a.r.e[j1].op=7∨a.r.e[j1].op=8))),(43,.bool (decide (a.r.e[j1].op=4∨a.r.e[j1].op=5∨a.r.e[j1].op=6)))] ρ) ?_ ?_
   ·refine br ?_
    refine a_ (ae bN (aj (aL F (fun hc=>?_) (fun hc=>?_))))
    ·have pz:a.r.e[j1].op=4:=by omega
     refine aE ?_
     exact⟨(by exact Sub.rf),⟨F,F,F,F,F,F,F,F,F,F,F,F,F,F,F,F,F,(am Value.bool (decide_eq_decide.2 (by omega))),trivial⟩⟩
    have yX: ¬a.r.e[j1].op=4:=by omega
    refine aG bN (aj (aL F (fun hc=>?_) (fun hc=>?_)))
    ·have pz:a.r.e[j1].op=5:=by omega
     refine aE ?_
     exact⟨(by exact Sub.rf),⟨F,F,F,F,F,F,F,F,F,F,F,F,F,F,F,F,F,(am Value.bool (decide_eq_decide.2 (by omega))),trivial⟩⟩
    have yX: ¬a.r.e[j1].op=5:=by omega
    refine a_ (ae bN (aj ?_))
    exact⟨(by exact Sub.rf),⟨F,F,F,F,F,F,F,F,F,F,F,F,F,F,F,F,F,(am Value.bool (decide_eq_decide.2 (by omega))),trivial⟩⟩
   rintro ρ O ⟨hS,hH⟩
   obtain⟨gv,rfl⟩:=hH.elim
   clear hH
   refine dq hS ?_
   refine aL F (fun hc=>?_) (fun hc=>?_)
   ·refine a_ ?_
    refine ae (bu dz bM) (ae (bF 0 eO) (ay (jW F F (by omega)) (ae (bu dz bM) (ae (bF 0 eO) (ay (jW F F (by omega)) (ae (bu dz bM) (ax (c8 [(vI (a.r.e[j1].a+(0:Int)))] 0 bM ?_))))))))
    refine ae (bu dz bM) (ax (c8 [(vI (a.r.e[j1].b+(0:Int)))] 0 bM ?_))
    refine bi ?_
    exact⟨(by first|(rw[nD (by omega)];exact Sub.rf)|(rw[nE (by omega)];exact Sub.rf)|(rw[qp (by omega) (by omega)];exact Sub.rf)),(.of F)⟩
   refine aE ?_
   exact⟨(by first|(rw[nD (by omega)];exact Sub.rf)|(rw[nE (by omega)];exact Sub.rf)|(rw[qp (by omega) (by omega)];exact Sub.rf)),(.of F)⟩
  rintro ρ O ⟨hS,hH⟩
  obtain⟨gv,rfl⟩:=hH.elim
  clear hH
  refine dq hS ?_
  refine a_ (ay (eR 0 dz cR) (ax (cP (m:=1) (parts:=[(0,_)]) (cs:=(eG 0 a.r.e[j1]).cl) dX cR (by decide) (by kernel_rfl) F (fun z5=>?_))))
  refine ax (dE 2 dX dX cR F F F F (by rw[cE]) (by decide) (Src.row (j:=0) F (by simp)) (by simp[fS]) (by simp only[dM,aJ,ai,db];omega) (by decide) (by decide) (fun z6 J8=>?_))
  refine aj (a_ (ae (dj (b:=1) j1 F F (by omega)) (bH ?_)))
  exact⟨j1+1,by omega,[az z6 J8 72 5 ((bX ((a.r.e.take j1).map (eG 0)))++(eG 0 a.r.e[j1]).cl),oI z3 69 a.cells,oI z2 153 [(vI 0),(vI 0)],oI z1 69 [(.int .u8 0),nS]],(by exact Sub.d (.d (.k (.k (.k (.k .z)))))),z6,J8,by rw[ke jx,mC (((a.r.e.take j1).map (eG 0)))];rfl,by omega,⟨F,F,F,(am (fun n9=>Value.slice z6 n9 J8) (show(((a.r.e.take j1).map (eG 0)).length)+1=(((a.r.e.take (j1+1)).map (eG 0))).length by rw[ke jx];simp only[aJ,bQ,dx]<;>omega)),F,F,F,F,F,F,F,F,F,F,F,trivial⟩⟩
 have H2: ¬j1<a.r.e.length:=by omega
 have Ql:j1=a.r.e.length:=by omega
 have Mp:0<a.r.e.length:=Db.pos Vo
 have hqa:a.r.e.length≤64:=Db.len
 have Yl:((a.r.e.take j1).map (eG 0))=a.r.e:=by rw[Ql,List.take_length,show eG 0=id from funext DJ,List.map_id]
 have MD:((a.r.e.take j1).map (eG 0)).length=a.r.e.length:=by rw[Ql];simp
 refine cD ?_
 refine a_ (aN (ay (cL dX) (ae (vW (a:=(((a.r.e.take j1).map (eG 0)).length)) (b:=1) F F (by omega) (by omega)) (ae (kn (i:=0) uQ bM F F (by decide)) (ax (c8 [(vN ((((a.r.e.take j1).map (eG 0)).length)-1))] 2 bM ?_))))))
 refine bi (a_ (ae (cg (jW F F (by omega)) (v':=vI 1) F) (bH ?_)))
 refine oP [az oa ka 72 5 (bX ((a.r.e.take j1).map (eG 0))),oI z3 69 a.cells,oI z2 153 [(vN ((((a.r.e.take j1).map (eG 0)).length)-1)),(vI 0)],oI z1 69 [(.int .u8 0),nS]] [(0,v8 op),(1,(.slice tb 2 tc)),(4,(.pointer (aD z1))),(5,(.slice oa (((a.r.e.take j1).map (eG 0)).length) ka)),(6,(.pointer (aD z2))),(7,vI 0),(8,(.pointer (aD z3))),(9,vI (0:Int)),(12,(.agg #[(vI 0),(vI 0)])),(13,(.slice tb 2 tc)),(14,vI 2),(15,vI 1)] F (.of F) (fun gv=>?_)
 refine T.round ?_
 refine aG (eT cV (b':=true) F) (dJ ?_)
 refine bW ?_
 refine aE (br (aK (bo (eF (i:=1) mW dv F F (a6 hT) (by simp) (by rw[iJ];simp)) (ae (fy b.cells gC F dv F F (bK _) (a6 hT) (oS (l:=[a,b]) (i:=1) (by simp))) (ax (b_ dv (fun z8=>?_)))))))
 refine aS (ax (c8 b.cells 0 dv ?_))
 refine bq (ae (bu gC oT) (ae (bF 0 vZ) (aX bN (aL F (fun hc=>?_) (fun hc=>?_)))))
 ·have tx:b.k=3:=by omega
  refine aG (dc [.int .u8 3,nS] rE dv (by kernel_rfl)) (ax (c8 [.int .u8 3,nS] 4 dv ?_))
  refine dP ?_
  refine cQ (i:=4) results68 gC F dv F F F ?_
  exact⟨[],Sub.z,[],⟨3,⟨none,0,[]⟩⟩,F,F,(aB (.inr tx)).symm,.inl (.inr F)⟩
 have yW: ¬b.k=3:=by omega
 have DQ: ¬b.k=3:=yW
 refine aE (bo (cL dX) (aS (bq (ae (bu gC iK) (ae (bF 0 dX) (ae (cL dX) (bH (aK ?_))))))))
 refine ep (fun(j2:Nat) ρ O=> ∃(ob:Option Addr) (kb:Nat),O=[oI z8 69 b.cells,az ob kb 72 5 (bX (((a.r.e.take j1).map (eG 0))++(b.r.e.take j2).map (eG (((a.r.e.take j1).map (eG 0)).length)))),oI z3 69 a.cells,oI z2 153 [(vN ((((a.r.e.take j1).map (eG 0)).length)-1)),(vI 0)],oI z1 69 [(.int .u8 0),nS]]∧j2≤b.r.e.length∧dh [(0,v8 op),(1,(.slice tb 2 tc)),(4,(.pointer (aD z1))),(5,(.slice ob ((((a.r.e.take j1).map (eG 0))++(b.r.e.take j2).map (eG (((a.r.e.take j1).map (eG 0)).length))).length) kb)),(6,(.pointer (aD z2))),(7,vI 1),(8,(.pointer (aD z8))),(9,vI (((a.r.e.take j1).map (eG 0)).length:Int)),(12,(.agg #[(vI 0),(vI 0)])),(13,(.slice tb 2 tc)),(14,vI 2),(15,vI 1),(27,(.slice b.r.b b.r.e.length b.r.c)),(28,vI (b.r.e.length:Int)),(29,vN j2)] ρ) (fun j2=>b.r.e.length-j2) 0 ?_ ?_
 ·exact⟨oa,ka,by rw[List.take_zero,gM,dp];rfl,bj _,⟨F,F,F,(am (fun n9=>Value.slice oa n9 ka) (show((a.r.e.take j1).map (eG 0)).length=((((a.r.e.take j1).map (eG 0))++(b.r.e.take 0).map (eG (((a.r.e.take j1).map (eG 0)).length)))).length by rw[List.take_zero,gM,dp])),F,F,F,F,F,F,F,F,F,F,F,trivial⟩⟩
 rintro j2 ρ O ⟨ob,kb,rfl,hj,hH⟩
 obtain⟨gv,rfl⟩:=hH.elim
 clear hH
 refine aG cV (dJ (aL F (fun hc=>?_) (fun hc=>?_)))
 ·have jx:j2<b.r.e.length:=by omega
  have FX:AA b.r.e.length b.r.e[j2]:=Tw.pc _ (av jx)
  have Yh:=FX.a0;have Bi:=FX.a1;have FY:=FX.b0;have hp4:=FX.b1
  have hp5:a.r.e.length≤64:=Db.len
  have hp6:b.r.e.length≤64:=Tw.len
  have hp7:(((a.r.e.take j1).map (eG 0))).length≤64:=by simp;omega
  refine aE (br (aK (aQ ?_)))
  refine ae (eF (i:=j2) dX cR F F (a6 hb) jx (by rw[cE];omega)) (ae (fy (b.r.e[j2].cl) dz F cR F F (bK _) (a6 hb) (gk (ak jx))) ?_)
  refine ax (b_ cR (fun z9=>?_))
  refine ax (c8 (b.r.e[j2].cl) 0 cR ?_)
  refine bi ?_
  refine fF (fun ρ O=>Sub [oI z9 72 [.int .u8 (((eG (((a.r.e.take j1).map (eG 0)).length) b.r.e[j2]).op:Nat):Int),.int .u8 (((eG (((a.r.e.take j1).map (eG 0)).length) b.r.e[j2]).p:Nat):Int),.int .u8 (((eG (((a.r.e.take j1).map (eG 0)).length) b.r.e[j2]).n:Nat):Int),vI (eG (((a.r.e.take j1).map (eG 0)).length) b.r.e[j2]).a,vI (eG (((a.r.e.take j1).map (eG 0)).length) b.r.e[j2]).b],oI z8 69 b.cells,az ob kb 72 5 (bX (((a.r.e.take j1).map (eG 0))++(b.r.e.take j2).map (eG (((a.r.e.take j1).map (eG 0)).length)))),oI z3 69 a.cells,oI z2 153 [(vN ((((a.r.e.take j1).map (eG 0)).length)-1)),(vI 0)],oI z1 69 [(.int .u8 0),nS]] O∧dh [(0,v8 op),(1,(.slice tb 2 tc)),(4,(.pointer (aD z1))),(5,(.slice ob ((((a.r.e.take j1).map (eG 0))++(b.r.e.take j2).map (eG (((a.r.e.take j1).map (eG 0)).length))).length) kb)),(6,(.pointer (aD z2))),(7,vI 1),(8,(.pointer (aD z8))),(9,vI (((a.r.e.take j1).map (eG 0)).length:Int)),(11,(.pointer (aD z9))),(12,(.agg #[(vI 0),(vI 0)])),(13,(.slice tb 2 tc)),(14,vI 2),(15,vI 1),(27,(.slice b.r.b b.r.e.length b.r.c)),(28,vI (b.r.e.length:Int)),(29,vN j2)] ρ) ?_ ?_
  ·refine br ?_
   refine a_ (ae (bu dz eN) (aX (bF 0 il) (aK ?_)))
   refine fF (fun ρ O=>Sub [oI z9 72 b.r.e[j2].cl,oI z8 69 b.cells,az ob kb 72 5 (bX (((a.r.e.take j1).map (eG 0))++(b.r.e.take j2).map (eG (((a.r.e.take j1).map (eG 0)).length)))),oI z3 69 a.cells,oI z2 153 [(vN ((((a.r.e.take j1).map (eG 0)).length)-1)),(vI 0)],oI z1 69 [(.int .u8 0),nS]] O∧dh [(0,v8 op),(1,(.slice tb 2 tc)),(4,(.pointer (aD z1))),(5,(.slice ob ((((a.r.e.take j1).map (eG 0))++(b.r.e.take j2).map (eG (((a.r.e.take j1).map (eG 0)).length))).length) kb)),(6,(.pointer (aD z2))),(7,vI 1),(8,(.pointer (aD z8))),(9,vI (((a.r.e.take j1).map (eG 0)).length:Int)),(11,(.pointer (aD z9))),(12,(.agg #[(vI 0),(vI 0)])),(13,(.slice tb 2 tc)),(14,vI 2),(15,vI 1),(27,(.slice b.r.b b.r.e.length b.r.c)),(28,vI (b.r.e.length:Int)),(29,vN j2),(34,v8 (b.r.e[j2].op)),(35,.bool (decide (b.r.e[j2].op=7∨b.r.e[j2].op=8)))] ρ) ?_ ?_
   ·refine br ?_
    refine a_ (ae bN (aj (aL F (fun hc=>?_) (fun hc=>?_))))
    ·have DN:b.r.e[j2].op=7:=by omega
     refine aE ?_
     exact⟨(by exact Sub.rf),⟨F,F,F,F,F,F,F,F,F,F,F,F,F,F,F,F,F,(am Value.bool (decide_eq_decide.2 (by omega))),trivial⟩⟩
    have DP: ¬b.r.e[j2].op=7:=by omega
    refine a_ (ae bN (aj ?_))
    exact⟨(by exact Sub.rf),⟨F,F,F,F,F,F,F,F,F,F,F,F,F,F,F,F,F,(am Value.bool (decide_eq_decide.2 (by omega))),trivial⟩⟩
   rintro ρ O ⟨hS,hH⟩
   obtain⟨gv,rfl⟩:=hH.elim
   clear hH
   refine dq hS ?_
   refine aL F (fun hc=>?_) (fun hc=>?_)
   ·refine a_ ?_
    refine ae (bu dz bM) (ae (bF 0 eO) (ay (jW F F (by omega)) (ae (bu dz bM) (ax (c8 [(vI (b.r.e[j2].a+(((a.r.e.take j1).map (eG 0)).length:Int)))] 0 bM ?_)))))
    refine bi ?_
    exact⟨(by first|(rw[nD (by omega)];exact Sub.rf)|(rw[nE (by omega)];exact Sub.rf)|(rw[qp (by omega) (by omega)];exact Sub.rf)),(.of F)⟩
   refine fF (fun ρ O=>Sub [oI z9 72 b.r.e[j2].cl,oI z8 69 b.cells,az ob kb 72 5 (bX (((a.r.e.take j1).map (eG 0))++(b.r.e.take j2).map (eG (((a.r.e.take j1).map (eG 0)).length)))),oI z3 69 a.cells,oI z2 153 [(vN ((((a.r.e.take j1).map (eG 0)).length)-1)),(vI 0)],oI z1 69 [(.int .u8 0),nS]] O∧dh [(0,v8 op),(1,(.slice tb 2 tc)),(4,(.pointer (aD z1))),(5,(.slice ob ((((a.r.e.take j1).map (eG 0))++(b.r.e.take j2).map (eG (((a.r.e.take j1).map (eG 0)).length))).length) kb)),(6,(.pointer (aD z2))),(7,vI 1),(8,(.pointer (aD z8))),(9,vI (((a.r.e.take j1).map (eG 0)).length:Int)),(11,(.pointer (aD z9))),(12,(.agg #[(vI 0),(vI 0)])),(13,(.slice tb 2 tc)),(14,vI 2),(15,vI 1),(27,(.slice b.r.b b.r.e.length b.r.c)),(28,vI (b.r.e.length:Int)),(29,vN j2),(35,.bool (decide (b.r.e[j2].op=7∨b.r.e[j2].op=8))),(43,.bool (decide (b.r.e[j2].op=4∨b.r.e[j2].op=5∨b.r.e[j2].op=6)))] ρ) ?_ ?_
   ·refine br ?_
    refine a_ (ae bN (aj (aL F (fun hc=>?_) (fun hc=>?_))))
    ·have pz:b.r.e[j2].op=4:=by omega
     refine aE ?_
     exact⟨(by exact Sub.rf),⟨F,F,F,F,F,F,F,F,F,F,F,F,F,F,F,F,F,(am Value.bool (decide_eq_decide.2 (by omega))),trivial⟩⟩
    have yX: ¬b.r.e[j2].op=4:=by omega
    refine aG bN (aj (aL F (fun hc=>?_) (fun hc=>?_)))
    ·have pz:b.r.e[j2].op=5:=by omega
     refine aE ?_
     exact⟨(by exact Sub.rf),⟨F,F,F,F,F,F,F,F,F,F,F,F,F,F,F,F,F,(am Value.bool (decide_eq_decide.2 (by omega))),trivial⟩⟩
    have yX: ¬b.r.e[j2].op=5:=by omega
    refine a_ (ae bN (aj ?_))
    exact⟨(by exact Sub.rf),⟨F,F,F,F,F,F,F,F,F,F,F,F,F,F,F,F,F,(am Value.bool (decide_eq_decide.2 (by omega))),trivial⟩⟩
   rintro ρ O ⟨hS,hH⟩
   obtain⟨gv,rfl⟩:=hH.elim
   clear hH
   refine dq hS ?_
   refine aL F (fun hc=>?_) (fun hc=>?_)
   ·refine a_ ?_
    refine ae (bu dz bM) (ae (bF 0 eO) (ay (jW F F (by omega)) (ae (bu dz bM) (ae (bF 0 eO) (ay (jW F F (by omega)) (ae (bu dz bM) (ax (c8 [(vI (b.r.e[j2].a+(((a.r.e.take j1).map (eG 0)).length:Int)))] 0 bM ?_))))))))
    refine ae (bu dz bM) (ax (c8 [(vI (b.r.e[j2].b+(((a.r.e.take j1).map (eG 0)).length:Int)))] 0 bM ?_))
    refine bi ?_
    exact⟨(by first|(rw[nD (by omega)];exact Sub.rf)|(rw[nE (by omega)];exact Sub.rf)|(rw[qp (by omega) (by omega)];exact Sub.rf)),(.of F)⟩
   refine aE ?_
   exact⟨(by first|(rw[nD (by omega)];exact Sub.rf)|(rw[nE (by omega)];exact Sub.rf)|(rw[qp (by omega) (by omega)];exact Sub.rf)),(.of F)⟩
  rintro ρ O ⟨hS,hH⟩
  obtain⟨gv,rfl⟩:=hH.elim
  clear hH
  refine dq hS ?_
  refine a_ (ay (eR 0 dz cR) (ax (cP (m:=1) (parts:=[(0,_)]) (cs:=[.int .u8 (((eG (((a.r.e.take j1).map (eG 0)).length) b.r.e[j2]).op:Nat):Int),.int .u8 (((eG (((a.r.e.take j1).map (eG 0)).length) b.r.e[j2]).p:Nat):Int),.int .u8 (((eG (((a.r.e.take j1).map (eG 0)).length) b.r.e[j2]).n:Nat):Int),vI (eG (((a.r.e.take j1).map (eG 0)).length) b.r.e[j2]).a,vI (eG (((a.r.e.take j1).map (eG 0)).length) b.r.e[j2]).b]) dX cR (by decide) (by kernel_rfl) F (fun xV=>?_))))
  refine ax (dE 3 dX dX cR F F F F (by rw[cE]) (by decide) (Src.row (j:=0) F (by simp)) (by simp[fS]) (by simp only[dM,aJ,ai,db];omega) (by decide) (by decide) (fun Ap rF=>?_))
  refine aj (a_ (ae (dj (b:=1) j2 F F (by omega)) (bH ?_)))
  exact⟨j2+1,by omega,[oI z8 69 b.cells,az Ap rF 72 5 ((bX (((a.r.e.take j1).map (eG 0))++(b.r.e.take j2).map (eG (((a.r.e.take j1).map (eG 0)).length))))++[.int .u8 (((eG (((a.r.e.take j1).map (eG 0)).length) b.r.e[j2]).op:Nat):Int),.int .u8 (((eG (((a.r.e.take j1).map (eG 0)).length) b.r.e[j2]).p:Nat):Int),.int .u8 (((eG (((a.r.e.take j1).map (eG 0)).length) b.r.e[j2]).n:Nat):Int),vI (eG (((a.r.e.take j1).map (eG 0)).length) b.r.e[j2]).a,vI (eG (((a.r.e.take j1).map (eG 0)).length) b.r.e[j2]).b]),oI z3 69 a.cells,oI z2 153 [(vN ((((a.r.e.take j1).map (eG 0)).length)-1)),(vI 0)],oI z1 69 [(.int .u8 0),nS]],(by exact Sub.d (.d (.k (.k (.k (.k (.k .z))))))),Ap,rF,by rw[ke jx,←aV,mC ((((a.r.e.take j1).map (eG 0))++(b.r.e.take j2).map (eG (((a.r.e.take j1).map (eG 0)).length))))];rfl,by omega,⟨F,F,F,(am (fun n9=>Value.slice Ap n9 rF) (show((((a.r.e.take j1).map (eG 0))++(b.r.e.take j2).map (eG (((a.r.e.take j1).map (eG 0)).length))).length)+1=((((a.r.e.take j1).map (eG 0))++(b.r.e.take (j2+1)).map (eG (((a.r.e.take j1).map (eG 0)).length)))).length by rw[ke jx,←aV];simp only[aJ,bQ,dx]<;>omega)),F,F,F,F,F,F,F,F,F,F,F,trivial⟩⟩
 have H2: ¬j2<b.r.e.length:=by omega
 have Ql:j2=b.r.e.length:=by omega
 have Mp:0<b.r.e.length:=Tw.pos DQ
 have hqa:a.r.e.length≤64:=Db.len
 have heB:(((a.r.e.take j1).map (eG 0))++(b.r.e.take j2).map (eG ((a.r.e.take j1).map (eG 0)).length))=a.r.e++b.r.e.map (eG a.r.e.length):=by rw[Yl,Ql,List.take_length]
 have hqb:b.r.e.length≤64:=Tw.len
 have hlb:(((a.r.e.take j1).map (eG 0))++(b.r.e.take j2).map (eG ((a.r.e.take j1).map (eG 0)).length)).length=a.r.e.length+b.r.e.length:=by rw[aJ,MD,Ql];simp
 refine cD ?_
 refine a_ (aN (ay (cL dX) (ae (vW (a:=((((a.r.e.take j1).map (eG 0))++(b.r.e.take j2).map (eG (((a.r.e.take j1).map (eG 0)).length))).length)) (b:=1) F F (by omega) (by omega)) (ae (kn (i:=1) uQ bM F F (by decide)) (ax (c8 [(vI ((((((a.r.e.take j1).map (eG 0))++(b.r.e.take j2).map (eG (((a.r.e.take j1).map (eG 0)).length))).length)-1:Nat):Int))] 3 bM ?_))))))
 refine bi (a_ (ae (cg (jW F F (by omega)) (v':=vI 2) F) (bH ?_)))
 refine oP [oI z8 69 b.cells,az ob kb 72 5 (bX (((a.r.e.take j1).map (eG 0))++(b.r.e.take j2).map (eG (((a.r.e.take j1).map (eG 0)).length)))),oI z3 69 a.cells,oI z2 153 [(vN ((((a.r.e.take j1).map (eG 0)).length)-1)),(vI ((((((a.r.e.take j1).map (eG 0))++(b.r.e.take j2).map (eG (((a.r.e.take j1).map (eG 0)).length))).length)-1:Nat):Int))],oI z1 69 [(.int .u8 0),nS]] [(0,v8 op),(1,(.slice tb 2 tc)),(4,(.pointer (aD z1))),(5,(.slice ob ((((a.r.e.take j1).map (eG 0))++(b.r.e.take j2).map (eG (((a.r.e.take j1).map (eG 0)).length))).length) kb)),(6,(.pointer (aD z2))),(7,vI 1),(8,(.pointer (aD z8))),(9,vI (((a.r.e.take j1).map (eG 0)).length:Int)),(12,(.agg #[(vI 0),(vI 0)])),(13,(.slice tb 2 tc)),(14,vI 2),(15,vI 2)] F (.of F) (fun gv=>?_)
 refine T.round ?_
 refine aG (eT cV (b':=false) F) (dJ (bf ?_))
 refine cD ?_
 refine a7 (ay (kn (i:=0) uQ bM F F (by decide)) (ae (bF 3 eO) (ae (kn (i:=1) uQ bM F F (by decide)) (ae (bF 3 eO) (ae (dc [v8 op,(.int .u8 0),(.int .u8 0),(vN ((((a.r.e.take j1).map (eG 0)).length)-1)),(vI ((((((a.r.e.take j1).map (eG 0))++(b.r.e.take j2).map (eG (((a.r.e.take j1).map (eG 0)).length))).length)-1:Nat):Int))] oe cR (by kernel_rfl)) (ax (cP (m:=1) (parts:=[(0,_)]) (cs:=[v8 op,(.int .u8 0),(.int .u8 0),(vN ((((a.r.e.take j1).map (eG 0)).length)-1)),(vI ((((((a.r.e.take j1).map (eG 0))++(b.r.e.take j2).map (eG (((a.r.e.take j1).map (eG 0)).length))).length)-1:Nat):Int))]) dX cR (by decide) (by kernel_rfl) F (fun sH=>?_))))))))
 refine ax (dE 2 dX dX cR F F F F (by rw[cE]) (by decide) (Src.row (j:=0) F (by simp)) (by simp[fS]) (by simp only[dM,aJ,ai,db];omega) (by decide) (by decide) (fun Dc Gw=>?_))
 refine aS (bq (ay (cL dX) (aX gT (aL F (fun hc=>?_) (fun hc=>?_)))))
 ·have ME:((((a.r.e.take j1).map (eG 0))++(b.r.e.take j2).map (eG (((a.r.e.take j1).map (eG 0)).length))).length)+1>64:=by omega
  have hL:=ME
  refine aG (dc [.int .u8 3,nS] rE dv (by kernel_rfl)) (ax (c8 [.int .u8 3,nS] 5 dv ?_))
  refine dP ?_
  refine cQ (i:=5) results68 gC F dv F F F ?_
  exact⟨[],Sub.z,[],⟨3,⟨none,0,[]⟩⟩,F,F,(Gv Vo DQ (by rw[heB]at hL;simpa using hL)).symm,.inl (.inr F)⟩
 have MF: ¬((((a.r.e.take j1).map (eG 0))++(b.r.e.take j2).map (eG (((a.r.e.take j1).map (eG 0)).length))).length)+1>64:=by omega
 have hL:=MF
 refine aE (bo (dc [(.int .u8 0),(.slice Dc (((((a.r.e.take j1).map (eG 0))++(b.r.e.take j2).map (eG (((a.r.e.take j1).map (eG 0)).length))).length)+1) Gw)] rE dv (by kernel_rfl)) (ax (c8 [(.int .u8 0),(.slice Dc (((((a.r.e.take j1).map (eG 0))++(b.r.e.take j2).map (eG (((a.r.e.take j1).map (eG 0)).length))).length)+1) Gw)] 5 dv ?_)))
 refine dP ?_
 refine cQ (i:=5) results68 gC F dv F F F ?_
 have Vp:=J7 (op:=op) Vo DQ (by rw[heB]at hL;simpa using hL)
 exact⟨[az Dc Gw 72 5 ((bX (((a.r.e.take j1).map (eG 0))++(b.r.e.take j2).map (eG (((a.r.e.take j1).map (eG 0)).length))))++[v8 op,(.int .u8 0),(.int .u8 0),(vN ((((a.r.e.take j1).map (eG 0)).length)-1)),(vI ((((((a.r.e.take j1).map (eG 0))++(b.r.e.take j2).map (eG (((a.r.e.take j1).map (eG 0)).length))).length)-1:Nat):Int))])],(by exact Sub.d (.d (.k .z))),[⟨Dc,Gw,(pw op a.pp b.pp).2⟩],⟨0,⟨Dc,Gw,(pw op a.pp b.pp).2⟩⟩,am (fun n9=>Value.agg #[.int .u8 0,.slice Dc n9 Gw]) (show((((a.r.e.take j1).map (eG 0))++(b.r.e.take j2).map (eG (((a.r.e.take j1).map (eG 0)).length))).length)+1=((pw op a.pp b.pp).2).length by rw[Vp,heB];first|(simp;done)|(simp;omega)),am (fun z=>[az Dc Gw 72 5 z]) (show(bX (((a.r.e.take j1).map (eG 0))++(b.r.e.take j2).map (eG (((a.r.e.take j1).map (eG 0)).length))))++[v8 op,(.int .u8 0),(.int .u8 0),(vN ((((a.r.e.take j1).map (eG 0)).length)-1)),(vI ((((((a.r.e.take j1).map (eG 0))++(b.r.e.take j2).map (eG (((a.r.e.take j1).map (eG 0)).length))).length)-1:Nat):Int))]=bX ((pw op a.pp b.pp).2) by rw[Vp,heB,mC];first|(simp[bX,ei.cells];done)|(simp[bX,ei.cells];omega)),by rw[Vp];rfl,.inl (.inl (List.mem_singleton.2 F))⟩
theorem pA {a b:PR} (h:a.k=1):Ce a.pp b.pp=b.pp:=aB h
theorem pB {a b:PR} (h: ¬a.k=1) (h2:b.k=1∨(a.k≠3∧a.r.e=b.r.e)):Ce a.pp b.pp=a.pp:=(aq h).trans (aB h2)
theorem Gx {a b:PR} (h: ¬a.k=1) (h2: ¬(b.k=1∨(a.k≠3∧a.r.e=b.r.e))):Ce a.pp b.pp=pw 5 a.pp b.pp:=(aq h).trans (aq h2)
theorem pC {a b:PR} (h:a.k=1∨b.k=2):DL a.pp b.pp=a.pp:=aB h
theorem pD {a b:PR} (h: ¬(a.k=1∨b.k=2)) (h2:b.k=1∨a.k=2):DL a.pp b.pp=b.pp:=(aq h).trans (aB h2)
theorem Gy {a b:PR} (h: ¬(a.k=1∨b.k=2)) (h2: ¬(b.k=1∨a.k=2)):DL a.pp b.pp=pw 4 a.pp b.pp:=(aq h).trans (aq h2)
theorem Bp {a:PR} (h:a.k=1∨a.k=2):Bl a.pp=(2,[⟨2,0,0,0,0⟩]):=aB h
theorem J9 {a:PR} (h: ¬(a.k=1∨a.k=2)):Bl a.pp=rC 8 a.pp:=aq h
theorem Vq (w:World) [dQ prog w] (a b:PR) (ha:Sl w a.r.b (bX a.r.e)) (Db:fZ a.pp) (hb:Sl w b.r.b (bX b.r.e)) (Tw:fZ b.pp):
  cB prog 40 [a.val,b.val] w (Yk 72 [a,b] (Ce a.pp b.pp)):=by
 refine aA func40 F ntmps40 F ?_
 refine aQ (ax (ef a.cells (fun z1=>?_)))
 refine ax (ef b.cells (fun z2=>?_))
 refine ax (b_ dv (fun z3=>?_))
 refine dJ (aK (aG (bu gC oT) (ae (bF 2 vZ) (ae bN (aj (aL F (fun hc=>?_) (fun hc=>?_)))))))
 ·have adM:a.k=1:=by omega
  refine aG (eR 1 gC dv) (ax (c8 b.cells 0 dv ?_))
  refine dP ?_
  refine cQ (i:=0) results40 gC F dv F F F ?_
  exact⟨[],Sub.z,[],b,F,F,Eq.symm (by first|exact pA ‹_›|exact pB ‹_› hc|exact pC (by omega)|exact pD (by omega) (by omega)),.inr ⟨b,by simp,F⟩⟩
 have adN: ¬a.k=1:=by omega
 refine fF (fun ρ O=>Sub [oI z3 69 [(.int .u8 0),nS],oI z2 69 b.cells,oI z1 69 a.cells] O∧dh [(0,a.val),(1,b.val),(2,(.pointer (aD z1))),(3,(.pointer (aD z2))),(4,(.pointer (aD z3))),(5,.bool (decide (((a.k:Nat):Int)=1))),(10,.bool (decide (b.k=1∨(a.k≠3∧a.r.e=b.r.e))))] ρ) ?_ ?_
 ·refine a_ ?_
  refine ae (bu gC oT) (ae (bF 1 vZ) ?_)
  by_cases h13:((b.k:Nat):Int)=1
  ·refine ae (bn bN h13) ?_
   refine aN (cY (cK (du ?_)))
   refine cY (cK (ae bw (aj ?_)))
   exact⟨(by exact Sub.rf),⟨F,F,F,F,F,F,(am Value.bool (aZ (by exact .inl (by omega))).symm),trivial⟩⟩
  refine ae (aY bN h13) (aN (ao (bu gC oT) (ao (bF 2 vZ) ?_)))
  by_cases h17:((a.k:Nat):Int)≠3
  ·refine ao (bn d_ h17) ?_
   refine ao aw (ao (bu gC iK) (ao (bF 2 dX) (ao (bu gC iK) (ao (bF 1 dX) ?_))))
   refine gF F F F (eh Zl (aO fun w1 hI=>(haveI:=eP hI;Q6 w1 a.r.b b.r.b a.r.c b.r.c a.r.e b.r.e (hI.sl ha) (hI.sl hb) (by have:=Db.len;have:a.r.e.length≤64:=this;omega))) ?_)
   rintro vr O' ⟨N,rfl,rfl,rfl⟩
   refine ao bw (ae bU (aj ?_))
   exact⟨(by exact Sub.rf),⟨F,F,F,F,F,F,(am Value.bool (decide_eq_decide.2 ⟨fun h=>.inr ⟨by omega,h⟩,fun h=>h.elim (fun h=>by omega) (fun h=>h.2)⟩)),trivial⟩⟩
  refine ao (aY d_ h17) (ao aw (cY (du (ao bU ?_))))
  refine ae bU (aj ?_)
  exact⟨(by exact Sub.rf),⟨F,F,F,F,F,F,(am Value.bool (a8 (by intro h9;rcases h9 with h9|h9<;>omega)).symm),trivial⟩⟩
 rintro ρ O ⟨hS,hH⟩
 obtain⟨gv,rfl⟩:=hH.elim
 clear hH
 refine dq hS ?_
 refine aL F (fun hc=>?_) (fun hc=>?_)
 ·refine br ?_
  refine a_ (ae (eR 2 gC dv) (ax (c8 a.cells 0 dv ?_)))
  refine dP ?_
  refine cQ (i:=0) results40 gC F dv F F F ?_
  exact⟨[],Sub.z,[],a,F,F,Eq.symm (by first|exact pA ‹_›|exact pB ‹_› hc|exact pC (by omega)|exact pD (by omega) (by omega)),.inr ⟨a,by simp,F⟩⟩
 let eH:List Value:=[v8 a.k,(.slice a.r.b a.r.e.length a.r.c),v8 b.k,(.slice b.r.b b.r.e.length b.r.c)]
 refine aE (aG (eR 2 gC dv) (ae (eR 1 gC dv) (ax (cP (m:=2) (parts:=[(0,_),(1,_)]) (cs:=eH) mW dv (by decide) (by kernel_rfl) F (fun z4=>?_)))))
 refine TO.lc MH (aO fun w1 hI=>(haveI:=eP hI;MG w1 5 (aD z4) 2 a b (hI.ij (mG 0)) (hI.sl ha) Db (hI.sl hb) Tw)) ?_
 rintro vr O' ⟨N,rfl,qs,c,rfl,rfl,FZ,Dd⟩
 refine dW (O':=([bJ z4 2 69 2 eH,oI z3 69 [(.int .u8 0),nS],oI z2 69 b.cells,oI z1 69 a.cells]++(dH 72 qs))) (by exact gR [] _ (dH 72 qs)) ?_
 refine ax (c8 c.cells 1 dv ?_)
 refine dP ?_
 refine cQ (i:=1) results40 gC F dv F F F ?_
 exact⟨dH 72 qs,(by exact Sub.d (.d (.d (.d .rf)))),qs,c,F,F,FZ.trans (Gx ‹_› hc).symm,Dd⟩
theorem Tx (w:World) [dQ prog w] (a b:PR) (ha:Sl w a.r.b (bX a.r.e)) (Db:fZ a.pp) (hb:Sl w b.r.b (bX b.r.e)) (Tw:fZ b.pp):
  cB prog 41 [a.val,b.val] w (Yk 72 [a,b] (DL a.pp b.pp)):=by
 refine aA func41 F ntmps41 F ?_
 refine aQ (ax (ef a.cells (fun z1=>?_)))
 refine ax (ef b.cells (fun z2=>?_))
 refine ax (b_ dv (fun z3=>?_))
 refine dJ (aK (aG (bu gC oT) (ae (bF 2 vZ) ?_)))
 by_cases h8:((a.k:Nat):Int)=1
 ·refine ae (bn bN h8) ?_
  refine aN (cY (cK (ae bw (aj ?_))))
  refine bW ?_
  refine aG (eR 2 gC dv) (ax (c8 a.cells 0 dv ?_))
  refine dP ?_
  refine cQ (i:=0) results41 gC F dv F F F ?_
  exact⟨[],Sub.z,[],a,F,F,Eq.symm (by first|exact pA ‹_›|exact pB ‹_› hc|exact pC (by omega)|exact pD (by omega) (by omega)),.inr ⟨a,by simp,F⟩⟩
 refine ae (aY bN h8) (aN (ao (bu gC oT) (ao (bF 1 vZ) ?_)))
 by_cases h12:((b.k:Nat):Int)=2
 ·refine ao (bn bN h12) ?_
  refine ae bU (aj ?_)
  refine bW ?_
  refine aG (eR 2 gC dv) (ax (c8 a.cells 0 dv ?_))
  refine dP ?_
  refine cQ (i:=0) results41 gC F dv F F F ?_
  exact⟨[],Sub.z,[],a,F,F,Eq.symm (by first|exact pA ‹_›|exact pB ‹_› hc|exact pC (by omega)|exact pD (by omega) (by omega)),.inr ⟨a,by simp,F⟩⟩
 refine ao (aY bN h12) (ae bU (aj (bf (aG (bu gC oT) (ae (bF 1 vZ) ?_)))))
 by_cases h18:((b.k:Nat):Int)=1
 ·refine ae (bn bN h18) ?_
  refine aN (cY (cK (ae bw (aj ?_))))
  refine bW ?_
  refine aG (eR 1 gC dv) (ax (c8 b.cells 0 dv ?_))
  refine dP ?_
  refine cQ (i:=0) results41 gC F dv F F F ?_
  exact⟨[],Sub.z,[],b,F,F,Eq.symm (by first|exact pA ‹_›|exact pB ‹_› hc|exact pC (by omega)|exact pD (by omega) (by omega)),.inr ⟨b,by simp,F⟩⟩
 refine ae (aY bN h18) (aN (ao (bu gC oT) (ao (bF 2 vZ) ?_)))
 by_cases h22:((a.k:Nat):Int)=2
 ·refine ao (bn bN h22) ?_
  refine ae bU (aj ?_)
  refine bW ?_
  refine aG (eR 1 gC dv) (ax (c8 b.cells 0 dv ?_))
  refine dP ?_
  refine cQ (i:=0) results41 gC F dv F F F ?_
  exact⟨[],Sub.z,[],b,F,F,Eq.symm (by first|exact pA ‹_›|exact pB ‹_› hc|exact pC (by omega)|exact pD (by omega) (by omega)),.inr ⟨b,by simp,F⟩⟩
 let gd:List Value:=[v8 a.k,(.slice a.r.b a.r.e.length a.r.c),v8 b.k,(.slice b.r.b b.r.e.length b.r.c)]
 refine ao (aY bN h22) (ae bU (aj (bf (aE (aG (eR 2 gC dv) (ae (eR 1 gC dv) (ax (cP (m:=2) (parts:=[(0,_),(1,_)]) (cs:=gd) mW dv (by decide) (by kernel_rfl) F (fun z4=>?_)))))))))
 refine TO.lc MH (aO fun w1 hI=>(haveI:=eP hI;MG w1 4 (aD z4) 2 a b (hI.ij (mG 0)) (hI.sl ha) Db (hI.sl hb) Tw)) ?_
 rintro vr O' ⟨N,rfl,qs,c,rfl,rfl,FZ,Dd⟩
 refine dW (O':=([bJ z4 2 69 2 gd,oI z3 69 [(.int .u8 0),nS],oI z2 69 b.cells,oI z1 69 a.cells]++(dH 72 qs))) (by exact gR [] _ (dH 72 qs)) ?_
 refine ax (c8 c.cells 1 dv ?_)
 refine dP ?_
 refine cQ (i:=1) results41 gC F dv F F F ?_
 exact⟨dH 72 qs,(by exact Sub.d (.d (.d (.d .rf)))),qs,c,F,F,FZ.trans (Gy (by omega) (by omega)).symm,Dd⟩
theorem Vr (w:World) [dQ prog w] (a:PR) (ha:Sl w a.r.b (bX a.r.e)) (Db:fZ a.pp):
  cB prog 42 [a.val] w (Yk 72 [a] (Bl a.pp)):=by
 refine aA func42 F ntmps42 F ?_
 refine aQ (ax (ef a.cells (fun z1=>?_)))
 refine ax (b_ dv (fun z2=>?_))
 refine bq (ae (bu gC oT) (ae (bF 1 vZ) ?_))
 by_cases h5:((a.k:Nat):Int)=1
 ·refine ae (bn bN h5) ?_
  refine aN (cY (cK (aX bw ?_)))
  refine bW ?_
  refine aG (dc [.int .u8 2,(.int .u8 0),(.int .u8 0),(vI 0),(vI 0)] oe cR (by kernel_rfl)) (TO.lc DR (aO fun w1 hI=>(haveI:=eP hI;yV w1 2 ⟨2,0,0,0,0⟩)) ?_)
  rintro vr O' ⟨N,rfl,qs,c,rfl,rfl,FZ,Dd⟩
  refine dW (O':=([oI z2 69 [(.int .u8 0),nS],oI z1 69 a.cells]++(dH 72 qs))) (by exact gR [] _ (dH 72 qs)) ?_
  refine ax (c8 c.cells 0 dv ?_)
  refine dP ?_
  refine cQ (i:=0) results42 gC F dv F F F ?_
  exact⟨dH 72 qs,(by exact Sub.d (.d .rf)),qs,c,F,F,FZ.trans (Bp (by omega)).symm,Dd.elim .inl (fun h=>absurd h (by simp))⟩
 refine ae (aY bN h5) (aN (ao (bu gC oT) (ao (bF 1 vZ) ?_)))
 by_cases h9:((a.k:Nat):Int)=2
 ·refine ao (bn bN h9) ?_
  refine aX bU ?_
  refine bW ?_
  refine aG (dc [.int .u8 2,(.int .u8 0),(.int .u8 0),(vI 0),(vI 0)] oe cR (by kernel_rfl)) (TO.lc DR (aO fun w1 hI=>(haveI:=eP hI;yV w1 2 ⟨2,0,0,0,0⟩)) ?_)
  rintro vr O' ⟨N,rfl,qs,c,rfl,rfl,FZ,Dd⟩
  refine dW (O':=([oI z2 69 [(.int .u8 0),nS],oI z1 69 a.cells]++(dH 72 qs))) (by exact gR [] _ (dH 72 qs)) ?_
  refine ax (c8 c.cells 0 dv ?_)
  refine dP ?_
  refine cQ (i:=0) results42 gC F dv F F F ?_
  exact⟨dH 72 qs,(by exact Sub.d (.d .rf)),qs,c,F,F,FZ.trans (Bp (by omega)).symm,Dd.elim .inl (fun h=>absurd h (by simp))⟩
 refine ao (aY bN h9) (aX bU (bf (aE (aG (eR 1 gC dv) (ax (cP (m:=1) (parts:=[(0,_)]) (cs:=a.cells) mW dv (by decide) (by kernel_rfl) F (fun z3=>?_)))))))
 refine TO.lc MH (aO fun w1 hI=>(haveI:=eP hI;Vn w1 8 (aD z3) 1 a (hI.ij (mG 0)) (hI.sl ha) Db)) ?_
 rintro vr O' ⟨N,rfl,qs,c,rfl,rfl,FZ,Dd⟩
 refine dW (O':=([bJ z3 1 69 2 a.cells,oI z2 69 [(.int .u8 0),nS],oI z1 69 a.cells]++(dH 72 qs))) (by exact gR [] _ (dH 72 qs)) ?_
 refine ax (c8 c.cells 1 dv ?_)
 refine dP ?_
 refine cQ (i:=1) results42 gC F dv F F F ?_
 exact⟨dH 72 qs,(by exact Sub.d (.d (.d .rf))),qs,c,F,F,FZ.trans (J9 (by omega)).symm,Dd⟩
theorem afq (w:World) [dQ prog w] (b:Option Addr) (c:Nat) (e:List ei) (hE:Sl w b (bX e)) (qZ:e.length<4611686018427387904) (mh: ∀x∈e,x.p<256∧x.n<256) (vars f_:Int) (FV:e.any jj=true→e.length≤24) (wb:Option Addr) (wc:Nat) (l:List Nat) (hW:Sl w wb (nY l)) (Dg:l.length<9223372036854775807) (xM: ∀x∈l,x<256):
  cB prog 21 [.slice b e.length c,vI vars,vI f_,.slice wb l.length wc] w fun v N=> ∃x er,v=.tuple #[.bool x,vN er]∧N=[]∧acl vars f_ e l x er:=by
 refine aA func21 F ntmps21 F ?_
 refine aQ (aS (aj (a7 (de (TO.lc H9 (aO fun w1 hI=>(haveI:=eP hI;UE w1 b c e (hI.sl hE) qZ mh vars f_ FV)) ?_)))))
 rintro vr O' ⟨N,rfl,D,k,er,rfl,rfl,hF⟩
 refine ay (bI _) (ae (bI _) (ax (b_ bY (fun z1=>?_))))
 refine ax (c8 ((dC D k)) 0 bY ?_)
 refine aj ?_
 refine j_ [oI z1 25 (dC D k),dI 56 4 3 D k] [(0,(.slice b e.length c)),(1,vI vars),(2,vI f_),(3,(.slice wb l.length wc)),(8,.bool false),(9,vI 0),(10,(.pointer (aD z1))),(11,vN er)] F (.of F) (fun gv=>?_)
 refine br (bo d_ (bi (aL F (fun hc=>?_) (fun hc=>?_))))
 ·have xi:er≠0:=by omega
  refine a7 (aS (aR ?_))
  refine dr (.bool false) (vN er) results21 F F ?_
  exact⟨[],Sub.z,_,_,F,F,D,er,hF,.inl ⟨by omega,F,F⟩⟩
 have Oa: ¬er≠0:=by omega
 refine aE (br ?_)
 have hB:=yn (wI (v:=0) (e:=e) hF (by omega)).2.1.toHasL
 refine a_ (ae (eR 0 dm bY) (aN (TO.lc M9 (aO fun w1 hI=>(haveI:=eP hI;D9 w1 D k.nb k.fb k.nc k.fc (dO k.qs) (hI.at (mG 1)) hB.1 hB.2.1 hB.2.2 wb wc l (hI.sl hW) Dg xM)) ?_)))
 rintro vr O' ⟨N,rfl,rfl,rfl⟩
 refine ae (bI _) (ae (bI _) (aS (aR ?_)))
 refine dr (.bool (Av D l)) (vN (k_ D l)) results21 F F ?_
 exact⟨[],Sub.z,_,_,F,F,D,er,hF,.inr ⟨by omega,F,F⟩⟩
end Go.Proofs.YtgdbfideeeegmaaGreatDoor

namespace Go.Lx
open Go.RowKit Go.Proofs.YtgdbfideeeegmaaGreatDoor
def leX (L x:Nat):PP:=(0,[⟨3,x,L-1-x,0,0⟩])
def noX:PP:=(1,[⟨1,0,0,0,0⟩])
def emX:PP:=(2,[⟨2,0,0,0,0⟩])
def J_ (m:c_) (s t:Nat):Nat→PP
 |0=>if s=t then emX else noX
 |x+1=>if fm m s x=t then Ce (J_ m s t x) (leX (eE m) x)else J_ m s t x
def mY (m:c_):Nat→Nat→Nat→PP
 |0,s,t=>J_ m s t (eE m)
 |k+1,s,t=>Ce (mY m k s t) (DL (DL (mY m k s k) (Bl (mY m k k k))) (mY m k k t))
def AB (m:c_):Nat→PP
 |0=>noX
 |t+1=>if dR m t=true then Ce (AB m t) (mY m m.next.length 0 t)else AB m t
def Gz (m:c_):PP:=AB m m.next.length
def Q7 (m:c_):Nat:=if(Gz m).1=3 then 4 else 0
def MI (m:c_):List ei:=if(Gz m).1=3 then[]else(Gz m).2
theorem DS {L x:Nat} (h:x<L) (hL:L≤256):fZ (leX L x):=.one (by decide) (by decide) (by omega) (by omega)
theorem yY:fZ noX:=.one (by decide) (by decide) (by decide) (by decide)
theorem MJ:fZ emX:=.one (by decide) (by decide) (by decide) (by decide)
theorem uR {m:c_} (hL:eE m≤256) (s t:Nat): ∀x,x≤eE m→fZ (J_ m s t x)
 |0,_=>by
  unfold J_;split
  ·exact MJ
  ·exact yY
 |x+1,h=>by
  unfold J_;split
  ·exact vX (uR hL s t x (by omega)) (DS (by omega) hL)
  ·exact uR hL s t x (by omega)
theorem jv {m:c_} (hL:eE m≤256): ∀k s t,fZ (mY m k s t)
 |0,s,t=>uR hL s t _ (aI _)
 |k+1,s,t=>vX (jv hL k s t) (sG (sG (jv hL k s k) (yU (jv hL k k k))) (jv hL k k t))
theorem sI {m:c_} (hL:eE m≤256): ∀t,fZ (AB m t)
 |0=>yY
 |t+1=>by
  unfold AB;split
  ·exact vX (sI hL t) (jv hL _ _ _)
  ·exact sI hL t
structure MR where
 b:Option Addr
 c:Nat
 l:List PR
instance:Inhabited MR:=⟨⟨none,0,[]⟩⟩
abbrev MR.val (r:MR):Value:=.slice r.b r.l.length r.c
def MR.qW (T:TypeId) (r:MR):Item:=az r.b r.c T 2 (eW r.l)
def eX (T:TypeId) (R:List MR):List Item:=R.map (MR.qW T)
def lJ (R:List MR):List Value:=R.map MR.val
structure xB (l:List PR) (p:List ER) (g:Nat→PP):Prop where
 pp: ∀j (h:j<l.length),l[j].pp=g j
 po: ∀x∈l,gH p x.r
theorem xB.nil {p:List ER} {g:Nat→PP}:xB [] p g:=⟨fun j h=>absurd h (by simp),fun x hx=>by simp at hx⟩
theorem xB.mono {l:List PR} {p q:List ER} {g:Nat→PP} (h:xB l p g) (hq: ∀x∈p,x∈q):xB l q g:=⟨h.pp,fun x hx=>(h.po x hx).mono hq⟩
theorem xB.snoc {l:List PR} {p:List ER} {g:Nat→PP} (h:xB l p g) {c:PR} (hc:c.pp=g l.length) (hp:gH p c.r):xB (l++[c]) p g:=by
 refine⟨fun j hj=>?_,fun x hx=>?_⟩
 ·rw[aJ,List.length_singleton]at hj
  rcases Nat.lt_or_ge j l.length with e|e
  ·rw[iU e];exact h.pp j e
  ·have:j=l.length:=by omega
   subst this
   rw[List.getElem_append_right (aI _)]
   simpa using hc
 ·rcases List.mem_append.1 hx with hx|hx
  ·exact h.po x hx
  ·rw[List.mem_singleton.1 hx];exact hp
structure qT (R:List MR) (p:List ER) (n:Nat) (f:Nat→Nat→PP):Prop where
 len: ∀r∈R,r.l.length=n
 row: ∀i (h:i<R.length),xB R[i].l p (f i)
theorem qT.nil {p:List ER} {n:Nat} {f:Nat→Nat→PP}:qT [] p n f:=⟨fun r hr=>by simp at hr,fun i h=>absurd h (by simp)⟩
theorem qT.mono {R:List MR} {p q:List ER} {n:Nat} {f:Nat→Nat→PP} (h:qT R p n f) (hq: ∀x∈p,x∈q):qT R q n f:=⟨h.len,fun i hi=>(h.row i hi).mono hq⟩
theorem qT.snoc {R:List MR} {p:List ER} {n:Nat} {f:Nat→Nat→PP} (h:qT R p n f) {r:MR} (hl:r.l.length=n) (hr:xB r.l p (f R.length)):qT (R++[r]) p n f:=by
 refine⟨fun x hx=>?_,fun i hi=>?_⟩
 ·rcases List.mem_append.1 hx with hx|hx
  ·exact h.len x hx
  ·rw[List.mem_singleton.1 hx];exact hl
 ·rw[aJ,List.length_singleton]at hi
  rcases Nat.lt_or_ge i R.length with e|e
  ·rw[iU e];exact h.row i e
  ·have:i=R.length:=by omega
   subst this
   rw[List.getElem_append_right (aI _)]
   simpa using hr
def jI (R:List MR) (n:Nat):List Value:=lJ R++List.replicate (n-R.length) (.slice none 0 0)
theorem mZ {R:List MR} {n:Nat} (h:R.length≤n):(jI R n).length=n:=by unfold jI lJ;rw[aJ,ai,jE];omega
theorem Q8 {R:List MR} {n:Nat} (h:R.length<n):(jI R n)[R.length]? =some (.slice none 0 0):=by
 unfold jI lJ
 rw[bZ (by simp),ai,fX,show n-R.length=(n-R.length-1)+1 by omega,List.replicate_succ];rfl
theorem uS {R:List MR} {n:Nat} (h:R.length<n) (r:MR):(jI R n).set R.length r.val=jI (R++[r]) n:=by
 unfold jI lJ
 rw[List.set_append_right _ _ (by simp),ai,fX,show n-R.length=(n-(R++[r]).length)+1 by simp;omega,List.replicate_succ,bm]
 simp
theorem Bq {R:List MR} {n:Nat} (h:R.length=n):jI R n=lJ R:=by unfold jI;rw[h,fX];simp
theorem pE {R:List MR} {i:Nat} (h:i<R.length):(lJ R)[i]? =some R[i].val:=by unfold lJ;rw[bl,ak h];rfl
theorem pF (R:List MR):(lJ R).length=R.length:=ai _
theorem DT (T:TypeId) (R S:List MR):eX T (R++S)=eX T R++eX T S:=bm
theorem lh {T:TypeId} {R:List MR} {i:Nat} (h:i<R.length):az R[i].b R[i].c T 2 (eW R[i].l)∈eX T R:=List.mem_map.2 ⟨_,av h,F⟩
theorem DU {R:List MR} {n:Nat} (h:R.length<n):jI R n=jI (R++[⟨none,0,[]⟩]) n:=by
 rw[←uS h]
 apply List.ext_getElem?
 intro i
 by_cases e:i=R.length
 ·subst e;rw[Q8 h,List.getElem?_set_self (by rw[mZ (by omega)];exact h)];rfl
 ·rw[List.getElem?_set_ne (fun h=>e h.symm)]
theorem DV {R:List MR} {n:Nat} (h:R.length<n) (r:MR):(jI (R++[r]) n)[R.length]? =some r.val:=by
 rw[←uS h,List.getElem?_set_self (by rw[mZ (by omega)];exact h)]
theorem Br {R:List MR} {n:Nat} (h:R.length<n) (r r2:MR):(jI (R++[r]) n).set R.length r2.val=jI (R++[r2]) n:=by
 rw[←uS h,List.set_set,uS h]
theorem MK {M:c_} {qs:List Rec} (h:nums qs=M.next):qs.length=M.next.length:=by rw[←h];simp
theorem Cg {M:c_} {qs:List Rec} (h:nums qs=M.next) (hv:Val M) {s:Nat} (hs:s<qs.length):qs[s].xs.length=eE M:=by
 have h1:qs[s].xs∈M.next:=by rw[←h];exact List.mem_map.2 ⟨_,av hs,F⟩
 exact hv.len _ h1
theorem Zm {M:c_} {qs:List Rec} (h:nums qs=M.next) (hv:Val M) {s:Nat} (hs:s<qs.length) {x:Nat} (hx:x<eE M):(ints qs[s].xs)[x]? =some (.int .i64 ((fm M s x:Nat):Int)):=by
 obtain⟨_,h1,h2,h3⟩:=hv.iw (o:=s) (by rw[←MK h];exact hs) hx
 have h4:qs[s].xs=M.next[s]:=by
  have:(nums qs)[s]? =M.next[s]? :=by rw[h]
  rw[ak h1,bl,ak hs]at this
  exact dn this
 rw[h4,gL h2,h3]
theorem ML {qs:List Rec} {s:Nat} (hs:s<qs.length):(dO qs)[s]? =some (.slice qs[s].b qs[s].xs.length qs[s].c):=by
 show(qs.map Rec.val)[s]? =_
 rw[bl,ak hs];rfl
theorem MM {qs:List Rec} {s:Nat} (hs:s<qs.length):az qs[s].b qs[s].c 3 1 (ints qs[s].xs)∈cw 3 qs:=List.mem_map.2 ⟨_,av hs,F⟩
theorem og {l:List PR} {i:Nat} {a:PR} (h:l[i]? =some a): ∀j (hj:j<a.cells.length),(eW l)[i*2+j]? =some a.cells[j]:=by
 obtain⟨hi,rfl⟩:=List.getElem?_eq_some_iff.1 h
 exact oS hi
theorem qT.at {R:List MR} {p:List ER} {n:Nat} {f:Nat→Nat→PP} (h:qT R p n f) {i j:Nat} (hi:i<R.length) (hj:j<n): ∃a:PR,R[i].l[j]? =some a∧a.pp=f i j∧gH p a.r:=by
 have hl:=h.len _ (av hi)
 have h1:=h.row i hi
 have s_:j<R[i].l.length:=by omega
 exact⟨R[i].l[j],ak s_,h1.pp j s_,h1.po _ (av s_)⟩
theorem lY {T:TypeId} {q p:List ER} {O:List Item} (h1: ∀it∈dH T q,it∈O) (h2: ∀it∈dH T p,it∈O): ∀it∈dH T (q++p),it∈O:=fun it gf=>by
 rw[rD]at gf
 exact(List.mem_append.1 gf).elim (h1 it) (h2 it)
theorem wW {p q:List ER} {a:List PR} {c:PR} (h:gH q c.r∨ ∃x∈a,c.r=x.r) (ha: ∀x∈a,gH p x.r):gH (q++p) c.r:=by
 rcases h with h|⟨x,hx,e⟩
 ·exact h.mono fun y hy=>aH _ hy
 ·rw[e];exact(ha x hx).mono fun y hy=>ah _ hy
theorem wX (A B E X Y:List Item) (c:Item) (h:Sub (A++[c]) B):Sub (A++(E++((X++[c])++Y))) (B++(E++(X++Y))):=by
 obtain⟨l,h1,h2⟩:=h
 refine⟨l++(E++(X++Y)),?_,h2.append (aP _)⟩
 refine List.Perm.trans ?_ (h1.append_right (E++(X++Y)))
 rw[aV X,aV A]
 refine List.Perm.append_left A ?_
 rw[←aV E X,←aV E X,List.singleton_append]
 exact List.perm_middle
theorem DW (A B E X Y Z:List Item) (h:Sub A B):Sub (A++(E++(X++Z))) (B++(E++(X++(Y++Z)))):=by
 obtain⟨l,h1,h2⟩:=h
 exact⟨l++(E++(X++Z)),h1.append_right _,h2.append ((aP E).append ((aP X).append (List.sublist_append_right Y Z)))⟩
def Ch (S:List UInt8) (i c:Nat):Prop:=S[i]?.map UInt8.toNat=some c
theorem Ch.lt {S:List UInt8} {i c:Nat} (h:Ch S i c):i<S.length:=by
 unfold Ch at h
 rcases Nat.lt_or_ge i S.length with e|e
 ·exact e
 ·rw[cn e]at h;cases h
section
variable {P:Program} {base:World} {ρ:Env} {O:List Item} {dst:Option Nat} {t:TypeId} {p:String} {af:Array Edge} {g:Option (Nat×Bool)}
theorem Zy {x y:Operand} {T:TypeId} {S:List UInt8} {i c:Nat} (hu:P.underlying T=some .string) (hx:ev ρ x=str S) (hy:ev ρ y=.int .i64 (i:Int)) (h:Ch S i c):QT P base ⟨dst,.index T x y,t,p,af,g⟩ ρ O (.int .u8 (c:Int)):=fun w _=>by
 obtain⟨b,hb,rfl⟩:=Option.map_eq_some_iff.1 h
 have FW:(ByteArray.mk S.toArray)[i]? =some b:=by
  have hl:=h.lt
  rw[show(ByteArray.mk S.toArray)[i]? =some ((ByteArray.mk S.toArray)[i]'hl)from dif_pos hl]
  rw[ak hl]at hb
  exact hb
 have Ri:ev ρ x=.string ⟨S.toArray⟩:=hx
 simp[execOp,Ri,hy,Instr.index,asIntOf,bL hu,FW]
end
end Go.Lx

namespace Go.Proofs.YtgdbfideeeegmaaGreatDoor
open Go.Lx Go.RowKit _root_.Go.Proofs.Tryz
theorem uU (base:World) [dQ prog base] (rb:Nat) (S:List UInt8) (rJ:S.length≤4096) (ia c n lc:Nat) (lb:Option Addr) (h:Ch S ia c):
  cx prog base 132 [(.pointer (aD rb))] [oI rb 149 [(str S),vN ia,(.slice lb n lc),vI 0]] (fun v O'=>v=v8 c∧O'=[oI rb 149 [(str S),vN ia,(.slice lb n lc),vI 0]]):=by
 refine aA func132 F ntmps132 F ?_
 have gQ:=h.lt
 refine aQ (aS (bq (ay bg (ae (bu gD jS) (ae (bF 0 pH) (aX (aY d_ (by decide)) (bf (aE (br (br ?_))))))))))
 refine fW [(0,0),(1,0),(2,0),(3,0),(4,0),(5,0),(6,0),(7,0),(8,0),(9,0)] ?_
 refine ap F aw (ap F bg (ap F (bu gD bM) (ap F (bF 0 eO) (ap F aw (ap F bg (ap F (bu gD GA) (ap F (bF 0 wZ) (ap F (yJ wZ F) (ap F (aY bN (by omega)) ?_)))))))))
 refine cy ?_
 refine bf (aE (br ?_))
 refine fW [(0,0),(1,0),(2,0),(3,0),(4,0),(5,0),(6,0),(7,0),(8,0),(9,0)] ?_
 refine ap F aw (ap F bg (ap F (bu gD GA) (ap F (bF 0 wZ) (ap F aw (ap F bg (ap F (bu gD bM) (ap F (bF 0 eO) (ap F (Zy (i:=ia) wZ F F h) (ap F cz ?_)))))))))
 refine cy ?_
 refine cM ?_
 refine aF (v8 c) results132 F ?_
 exact⟨F,F⟩
theorem Rj (base:World) [dQ prog base] (rb:Nat) (S:List UInt8) (rJ:S.length≤4096) (ia c n lc:Nat) (lb:Option Addr) (h:Ch S ia c):
  cx prog base 189 [(.pointer (aD rb)),v8 c] [oI rb 149 [(str S),vN ia,(.slice lb n lc),vI 0]] (fun v O'=>v=.tuple #[]∧O'=[oI rb 149 [(str S),vN (ia+1),(.slice lb n lc),vI 0]]):=by
 refine aA func189 F ntmps189 F ?_
 have gQ:=h.lt
 refine a7 ?_
 have MV:=(cx.under (A:=[oI rb 149 [(str S),vN ia,(.slice lb n lc),vI 0]]) (B:=[]) (O:=[oI rb 149 [(str S),vN ia,(.slice lb n lc),vI 0]]) (uU base rb S rJ ia c n lc lb h) (by exact Sub.rf))
 refine TO.lc l6 MV ?_
 clear MV
 rintro vr O' ⟨A9,rfl,rfl,rfl⟩
 refine aS (bq (ay bg (ae (bu gD jS) (ae (bF 0 pH) (ae (bn bN (by decide)) (aN (ao aw (ao aw (ao (aY d_ (by omega)) (ae bw ?_))))))))))
 refine bi (bf (aE (bo bg (ae (bu gD jS) (ae (bF 0 pH) (aX (bn bN (by decide)) ?_))))))
 refine bW ?_
 refine a_ (ay bg (ae (bu gD bM) (ae (bF 0 eO) (ae (dj (b:=1) ia F F (by omega)) (ae bg (ae (bu gD bM) (ax (c8 [(vN (ia+1))] 0 bM ?_))))))))
 refine bi ?_
 refine qS.zero results189 ?_
 exact⟨F,F⟩
theorem H4 (base:World) [dQ prog base] (rb:Nat) (S:List UInt8) (ia lc:Nat) (lb:Option Addr) (l:List ei) (x:ei) (hl:l.length≤1000):
  cx prog base 133 [(.pointer (aD rb)),x.ag] [oI rb 149 [(str S),vN ia,(.slice lb l.length lc),vI 0],az lb lc 72 5 (bX l)] (fun v O'=> ∃vH vJ,v=vN l.length∧O'=[oI rb 149 [(str S),vN ia,(.slice vH ((l++[x]).length) vJ),vI 0],az vH vJ 72 5 (bX (l++[x]))]):=by
 refine aA func133 F ntmps133 F ?_
 refine aQ (ax (ef x.cl (fun z1=>?_)))
 refine aj (br ?_)
 refine T.ds [oI z1 72 x.cl,oI rb 149 [(str S),vN ia,(.slice lb l.length lc),vI 0]] [(0,0),(1,0),(2,0),(3,0),(4,0),(5,0),(6,1),(7,1),(8,0),(9,0),(10,2)] (by exact Sub.k (.k .z)) ?_
 refine ap F aw (ap F aw (ap F bg (ap F (bu gD iK) (ap F (bF 1 dX) (ap F (eR 0 dz cR) ?_)))))
 refine cG F F (cP (m:=1) (parts:=[(0,_)]) (cs:=x.cl) dX cR (by decide) (by kernel_rfl) F (fun z2=>⟨by exact Sub.d (.k (.k .z)),?_⟩))
 refine cG F F (dE 3 dX dX cR F F F F (by rw[cE]) (by decide) (Src.row (j:=0) F (by simp)) (by simp[fS]) (by omega) (by decide) (by decide) (fun z3 pg=>⟨by exact Sub.d (.k (.k .z)),?_⟩))
 refine ap F bg (ap F (bu gD iK) ?_)
 refine cA F F (c8 [(.slice z3 (l.length+1) pg)] 2 iK ?_)
 refine cy ?_
 refine bo bg (ae (bu gD iK) (ae (bF 2 dX) (ae (cL dX) (ae (vW (a:=(l.length+1)) (b:=1) F F (by omega) (by omega)) (aR ?_)))))
 refine aF (vN ((l.length+1)-1)) results133 F ?_
 exact⟨[oI rb 149 [(str S),vN ia,(.slice z3 (l.length+1) pg),vI 0],az z3 pg 72 5 ((bX l)++x.cl)],(by exact Sub.d (.d (.k (.k .z)))),z3,pg,by simp,by rw[mC,aJ];rfl⟩
theorem Zz (base:World) [dQ prog base] (rb:Nat) (S:List UInt8) (rJ:S.length≤4096) (ia n lc:Nat) (lb:Option Addr) (h1:Ch S ia 42) (h2:Ch S (ia+1) 93):
  cx prog base 134 [(.pointer (aD rb))] [oI rb 149 [(str S),vN ia,(.slice lb n lc),vI 0]] (fun v O'=>v=.agg #[v8 0,v8 0]∧O'=[oI rb 149 [(str S),vN (ia+1+1),(.slice lb n lc),vI 0]]):=by
 refine aA func134 F ntmps134 F ?_
 have gQ:=h1.lt;have mH:=h2.lt
 refine aQ (ax (b_ jX (fun z1=>?_)))
 refine bi (aG (dc _ uV jX F) (ax (b_ jX (fun z2=>?_))))
 refine ax (c8 [(.int .u8 0),(.int .u8 0)] 0 jX ?_)
 refine aS (bq (aN ?_))
 have rI:=(cx.under (A:=[oI rb 149 [(str S),vN ia,(.slice lb n lc),vI 0]]) (B:=[oI z2 129 [(.int .u8 0),(.int .u8 0)],oI z1 129 [(.int .u8 0),(.int .u8 0)]]) (O:=[oI z2 129 [(.int .u8 0),(.int .u8 0)],oI z1 129 [(.int .u8 0),(.int .u8 0)],oI rb 149 [(str S),vN ia,(.slice lb n lc),vI 0]]) (uU base rb S rJ ia 42 n lc lb h1) (by exact Sub.fz [oI z2 129 [(.int .u8 0),(.int .u8 0)],oI z1 129 [(.int .u8 0),(.int .u8 0)]] _ (.k (.k .z))))
 refine TO.lc l6 rI ?_
 clear rI
 rintro vr O' ⟨A9,rfl,rfl,rfl⟩
 refine aX (bn bN (by decide)) ?_
 refine bW ?_
 refine bo bg (ae (bu gD bM) (ae (bF 0 eO) (ae (dj (b:=1) ia F F (by omega)) (ae bg (ae (bu gD bM) (ax (c8 [(vN (ia+1))] 0 bM ?_)))))))
 refine bi (a7 ?_)
 have rK:=(cx.under (A:=[oI rb 149 [(str S),(vN (ia+1)),(.slice lb n lc),vI 0]]) (B:=[oI z2 129 [(.int .u8 0),(.int .u8 0)],oI z1 129 [(.int .u8 0),(.int .u8 0)]]) (O:=[oI rb 149 [(str S),(vN (ia+1)),(.slice lb n lc),vI 0],oI z2 129 [(.int .u8 0),(.int .u8 0)],oI z1 129 [(.int .u8 0),(.int .u8 0)]]) (Rj base rb S rJ (ia+1) 93 n lc lb h2) (by exact Sub.rf))
 refine TO.lc Ck rK ?_
 clear rK
 rintro vr O' ⟨A9,rfl,rfl,rfl⟩
 refine bi (aG (eR 1 l7 jX) (ax (c8 [(.int .u8 0),(.int .u8 0)] 2 jX ?_)))
 refine dP ?_
 refine cQ (i:=2) results134 l7 F jX F F F ?_
 exact⟨[oI rb 149 [(str S),vN (ia+1+1),(.slice lb n lc),vI 0]],(by exact Sub.k .z),F,F⟩
theorem ZA (base:World) [dQ prog base] (rb:Nat) (S:List UInt8) (rJ:S.length≤4096) (ia k n lc:Nat) (lb:Option Addr) (hk:k<6) (h1:Ch S ia (97+k)) (h2:Ch S (ia+1) 93):
  cx prog base 134 [(.pointer (aD rb))] [oI rb 149 [(str S),vN ia,(.slice lb n lc),vI 0]] (fun v O'=>v=.agg #[v8 (0|||1*2^k),v8 0]∧O'=[oI rb 149 [(str S),vN (ia+1+1),(.slice lb n lc),vI 0]]):=by
 refine aA func134 F ntmps134 F ?_
 have gQ:=h1.lt;have mH:=h2.lt
 have hpk:2^k<256:=Nat.pow_lt_pow_right (a:=2) (by decide) (show k<8 by omega)
 refine aQ (ax (b_ jX (fun z1=>?_)))
 refine bi (aG (dc _ uV jX F) (ax (b_ jX (fun z2=>?_))))
 refine ax (c8 [(.int .u8 0),(.int .u8 0)] 0 jX ?_)
 refine aS (bq (aN ?_))
 have rI:=(cx.under (A:=[oI rb 149 [(str S),vN ia,(.slice lb n lc),vI 0]]) (B:=[oI z2 129 [(.int .u8 0),(.int .u8 0)],oI z1 129 [(.int .u8 0),(.int .u8 0)]]) (O:=[oI z2 129 [(.int .u8 0),(.int .u8 0)],oI z1 129 [(.int .u8 0),(.int .u8 0)],oI rb 149 [(str S),vN ia,(.slice lb n lc),vI 0]]) (uU base rb S rJ ia (97+k) n lc lb h1) (by exact Sub.fz [oI z2 129 [(.int .u8 0),(.int .u8 0)],oI z1 129 [(.int .u8 0),(.int .u8 0)]] _ (.k (.k .z))))
 refine TO.lc l6 rI ?_
 clear rI
 rintro vr O' ⟨A9,rfl,rfl,rfl⟩
 refine aX (aY bN (by omega)) (bf (aE (br (aK ?_))))
 refine qn 3 (T.round ?_)
 refine br (bo bg (ae (bu gD jS) (ae (bF 0 pH) (aX (bn bN (by decide)) ?_))))
 refine bW ?_
 refine aE (aK (a7 ?_))
 have uW:=(cx.under (A:=[oI rb 149 [(str S),vN ia,(.slice lb n lc),vI 0]]) (B:=[oI z2 129 [(.int .u8 0),(.int .u8 0)],oI z1 129 [(.int .u8 0),(.int .u8 0)]]) (O:=[oI rb 149 [(str S),vN ia,(.slice lb n lc),vI 0],oI z2 129 [(.int .u8 0),(.int .u8 0)],oI z1 129 [(.int .u8 0),(.int .u8 0)]]) (uU base rb S rJ ia (97+k) n lc lb h1) (by exact Sub.rf))
 refine TO.lc l6 uW ?_
 clear uW
 rintro vr O' ⟨A9,rfl,rfl,rfl⟩
 refine ae (aY bN (by omega)) (aN (cK (ae bU (aS (bq (bH (bf ?_)))))))
 refine aE (a7 ?_)
 have y6:=(cx.under (A:=[oI rb 149 [(str S),vN ia,(.slice lb n lc),vI 0]]) (B:=[oI z2 129 [(.int .u8 0),(.int .u8 0)],oI z1 129 [(.int .u8 0),(.int .u8 0)]]) (O:=[oI rb 149 [(str S),vN ia,(.slice lb n lc),vI 0],oI z2 129 [(.int .u8 0),(.int .u8 0)],oI z1 129 [(.int .u8 0),(.int .u8 0)]]) (uU base rb S rJ ia (97+k) n lc lb h1) (by exact Sub.rf))
 refine TO.lc l6 y6 ?_
 clear y6
 rintro vr O' ⟨A9,rfl,rfl,rfl⟩
 refine aS (bq (ay (aY bN (by omega)) (aN (cK (ae bU (aN (cK ?_)))))))
 refine aX bU (bf (aE (br (bo bg (ae (bu gD jS) (ae (bF 0 pH) (ae (bn bN (by decide)) (aN (ao aw (ao (aY cV (by omega)) ?_))))))))))
 refine ao aw (ao aw (ao (aY gT (by omega)) (ao bU (ao aw (ao aw (ao (cg (Mx (a:=(97+k)) (b:=97) .u8 F F (by show _<256;omega) (by omega)) (v':=v8 k) (am (Value.int .u8) (by omega))) (ao (gi il eO F (by first|rfl|exact gX ⟨by omega,by omega⟩|exact rA (by omega)|exact oO (by omega))) ?_)))))))
 refine ao aw (ao (aY tg (by omega)) (ao bU (aX bw (bf (aE (br (bo bg (ae (bu gD jS) (ae (bF 0 pH) ?_)))))))))
 refine aX (aY d_ (by decide)) (bf (aE (bo (cg (Mx (a:=(97+k)) (b:=97) .u8 F F (by show _<256;omega) (by omega)) (v':=v8 k) (am (Value.int .u8) (by omega))) (ae (gi il eO F (by first|rfl|exact gX ⟨by omega,by omega⟩|exact rA (by omega)|exact oO (by omega))) (aS (bq (bH ?_)))))))
 refine bf (a_ (ae (bu l7 eN) (ae (bF 1 il) (ay (gi eO TD F (by first|rfl|exact gX ⟨by omega,by omega⟩|exact rA (by omega)|exact oO (by omega))) (ae (Vi (a:=1) (b:=k) .u8 F F (by show _≤8;omega) (by show _<256;omega)) (ae (Vh (a:=0) (b:=(1*2^k)) .u8 F F (by show _<256;omega) (by show _<256;omega)) (ae (bu l7 eN) (ax (c8 [(v8 (0|||(1*2^k)))] 1 eN ?_)))))))))
 refine bi (a_ (ay bg (ae (bu gD bM) (ae (bF 0 eO) (ae (dj (b:=1) ia F F (by omega)) (ae bg (ae (bu gD bM) (ax (c8 [(vN (ia+1))] 0 bM ?_)))))))))
 refine bi ?_
 refine oP [oI rb 149 [(str S),(vN (ia+1)),(.slice lb n lc),vI 0],oI z2 129 [(v8 (0|||(1*2^k))),(.int .u8 0)],oI z1 129 [(.int .u8 0),(.int .u8 0)]] [(0,(.pointer (aD rb))),(2,(.pointer (aD z1))),(3,(.pointer (aD z2))),(4,vN k),(5,.bool false),(6,v8 (97+k)),(7,(.agg #[(.int .u8 0),(.int .u8 0)])),(8,(.pointer (aD rb))),(9,v8 (97+k)),(10,.bool false)] F (.of F) (fun gv=>?_)
 refine T.round ?_
 refine br (bo bg (ae (bu gD jS) (ae (bF 0 pH) (aX (bn bN (by decide)) ?_))))
 refine bW ?_
 refine aE (aK (a7 ?_))
 have uW:=(cx.under (A:=[oI rb 149 [(str S),(vN (ia+1)),(.slice lb n lc),vI 0]]) (B:=[oI z2 129 [(v8 (0|||(1*2^k))),(.int .u8 0)],oI z1 129 [(.int .u8 0),(.int .u8 0)]]) (O:=[oI rb 149 [(str S),(vN (ia+1)),(.slice lb n lc),vI 0],oI z2 129 [(v8 (0|||(1*2^k))),(.int .u8 0)],oI z1 129 [(.int .u8 0),(.int .u8 0)]]) (uU base rb S rJ (ia+1) 93 n lc lb h2) (by exact Sub.rf))
 refine TO.lc l6 uW ?_
 clear uW
 rintro vr O' ⟨A9,rfl,rfl,rfl⟩
 refine ae (aY bN (by omega)) (aN (cK (ae bU (aS (bq (bH (bf ?_)))))))
 refine aE (a7 ?_)
 have y6:=(cx.under (A:=[oI rb 149 [(str S),(vN (ia+1)),(.slice lb n lc),vI 0]]) (B:=[oI z2 129 [(v8 (0|||(1*2^k))),(.int .u8 0)],oI z1 129 [(.int .u8 0),(.int .u8 0)]]) (O:=[oI rb 149 [(str S),(vN (ia+1)),(.slice lb n lc),vI 0],oI z2 129 [(v8 (0|||(1*2^k))),(.int .u8 0)],oI z1 129 [(.int .u8 0),(.int .u8 0)]]) (uU base rb S rJ (ia+1) 93 n lc lb h2) (by exact Sub.rf))
 refine TO.lc l6 y6 ?_
 clear y6
 rintro vr O' ⟨A9,rfl,rfl,rfl⟩
 refine aS (bq (ay (bn bN (by decide)) (aN (ao aw (ao g_ (ae bw (aN (ao aw (ao (bn km (by omega)) ?_)))))))))
 refine aX bw ?_
 refine bW ?_
 refine bo bg (ae (bu gD bM) (ae (bF 0 eO) (ae (dj (b:=1) ((ia+1)) F F (by omega)) (ae bg (ae (bu gD bM) (ax (c8 [(vN ((ia+1)+1))] 0 bM ?_)))))))
 refine bi (aG (eR 1 l7 jX) (ax (c8 [(v8 (0|||(1*2^k))),(.int .u8 0)] 2 jX ?_)))
 refine dP ?_
 refine cQ (i:=2) results134 l7 F jX F F F ?_
 exact⟨[oI rb 149 [(str S),(vN ((ia+1)+1)),(.slice lb n lc),vI 0]],(by exact Sub.k .z),F,F⟩
def vK (f:FuncId) (S:List UInt8) (ia:Nat) (l:List ei) (i ib:Nat) (m:List ei):Prop:= ∀(base:World) [dQ prog base] (rb:Nat) (lb:Option Addr) (lc:Nat),cx prog base f [(.pointer (aD rb))] [eu rb (.cells (List.toArray [(str S),vN ia,(.slice lb l.length lc),vI 0]) 149 (0,0)),az lb lc 72 5 (bX l)] (fun v O'=> ∃vH vJ,v=vN i∧O'=[eu rb (.cells (List.toArray [(str S),vN ib,(.slice vH m.length vJ),vI 0]) 149 (0,0)),az vH vJ 72 5 (bX m)])
theorem TE {S:List UInt8} (rJ:S.length≤4096) {ia pp:Nat} {l:List ei} (hl:l.length≤1000) (h1:Ch S ia 91) (hcu: ∀(base:World) [dQ prog base] (rb:Nat) (lb:Option Addr) (n lc:Nat),cx prog base 134 [(.pointer (aD rb))] [oI rb 149 [(str S),vN (ia+1),(.slice lb n lc),vI 0]] (fun v O'=>v=.agg #[v8 pp,v8 0]∧O'=[oI rb 149 [(str S),vN (ia+3),(.slice lb n lc),vI 0]])):vK 96 S ia l l.length (ia+3) (l++[(⟨3,pp,0,0,0⟩:ei)]):=by
 intro base _ rb lb lc
 refine aA func96 F ntmps96 F ?_
 have gQ:=h1.lt
 refine aQ (aj (a7 ?_))
 let eH:Lx.Item:=az lb lc 72 5 (bX l)
 let gd:Value:=(.slice lb l.length lc)
 have MV:=(cx.under (A:=[oI rb 149 [(str S),vN ia,gd,vI 0]]) (B:=[eH]) (O:=[oI rb 149 [(str S),vN ia,gd,vI 0],eH]) (uU base rb S rJ ia 91 l.length lc lb h1) (by exact Sub.rf))
 refine TO.lc l6 MV ?_
 clear MV
 rintro vr O' ⟨A9,rfl,rfl,rfl⟩
 refine aS (bq (ay bg (ae (bu gD jS) (ae (bF 0 pH) (aX (aY d_ (by decide)) (bf (aE (bo bg (ae (bu gD bM) (ae (bF 0 eO) ?_))))))))))
 refine ae (dj (b:=1) ia F F (by omega)) (ae bg (ae (bu gD bM) (ax (c8 [(vN (ia+1))] 0 bM ?_))))
 refine bq (bH (aK (aG (aY bN (by decide)) (aj (bf (aG (aY bN (by decide)) (aS ?_)))))))
 refine bi (bf (aG (bn bN (by decide)) (aj ?_)))
 refine bW ?_
 refine a7 ?_
 have y7:=(cx.under (A:=[oI rb 149 [(str S),(vN (ia+1)),gd,vI 0]]) (B:=[eH]) (O:=[oI rb 149 [(str S),(vN (ia+1)),gd,vI 0],eH]) (hcu base rb lb l.length lc) (by exact Sub.rf))
 refine TO.lc Vv y7 ?_
 clear y7
 rintro vr O' ⟨A9,rfl,rfl,rfl⟩
 refine ax (b_ jX (fun z1=>?_))
 refine ax (c8 [v8 pp,v8 0] 0 jX ?_)
 refine bi (bo (bu l7 eN) (ae (bF 0 il) (ae (bu l7 eN) (ae (bF 0 il) (ae (dc [.int .u8 3,v8 pp,v8 0,(vI 0),(vI 0)] oe cR (by kernel_rfl)) ?_)))))
 let fR:Lx.Item:=oI z1 129 [v8 pp,v8 0]
 have pI:=(cx.under (A:=[oI rb 149 [(str S),vN (ia+3),gd,vI 0],eH]) (B:=[fR]) (O:=[fR,oI rb 149 [(str S),vN (ia+3),gd,vI 0],eH]) (H4 base rb S (ia+3) lc lb l (⟨3,pp,0,0,0⟩:ei) hl) (by exact Sub.fz [fR] _ (.fz [fR] _ (.k .z))))
 refine TO.lc Cl pI ?_
 clear pI
 rintro vr O' ⟨A9,rfl,uX,uY,rfl,rfl⟩
 refine aR ?_
 refine aF (vN l.length) results96 F ?_
 exact⟨[oI rb 149 [(str S),vN (ia+3),(.slice uX ((l++[(⟨3,pp,0,0,0⟩:ei)]).length) uY),vI 0],az uX uY 72 5 (bX (l++[(⟨3,pp,0,0,0⟩:ei)]))],(by exact Sub.k (.k .z)),_,_,F,F⟩
theorem y8 {S:List UInt8} (rJ:S.length≤4096) {ia i ib:Nat} {l m:List ei} (h1:Ch S ia 40) (Gm:vK 135 S (ia+1) l i ib m):vK 96 S ia l i ib m:=by
 intro base _ rb lb lc
 refine aA func96 F ntmps96 F ?_
 have gQ:=h1.lt
 refine aQ (aj (a7 ?_))
 have MV:=(cx.under (A:=[oI rb 149 [(str S),vN ia,(.slice lb l.length lc),vI 0]]) (B:=[az lb lc 72 5 (bX l)]) (O:=[oI rb 149 [(str S),vN ia,(.slice lb l.length lc),vI 0],az lb lc 72 5 (bX l)]) (uU base rb S rJ ia 40 l.length lc lb h1) (by exact Sub.rf))
 refine TO.lc l6 MV ?_
 clear MV
 rintro vr O' ⟨A9,rfl,rfl,rfl⟩
 refine aS (bq (ay bg (ae (bu gD jS) (ae (bF 0 pH) (aX (aY d_ (by decide)) (bf (aE (bo bg (ae (bu gD bM) (ae (bF 0 eO) ?_))))))))))
 refine ae (dj (b:=1) ia F F (by omega)) (ae bg (ae (bu gD bM) (ax (c8 [(vN (ia+1))] 0 bM ?_))))
 refine bq (bH (aK (aG (aY bN (by decide)) (aj (bf (aG (aY bN (by decide)) (aS ?_)))))))
 refine bi (bf (aG (aY bN (by decide)) (aj (bf (aG (bn bN (by decide)) (aS ?_))))))
 refine bi ?_
 refine bW ?_
 refine a7 ?_
 let gn:List Lx.Item:=[oI rb 149 [(str S),(vN (ia+1)),(.slice lb l.length lc),vI 0],az lb lc 72 5 (bX l)]
 have yu:=(cx.under (A:=gn) (B:=[]) (O:=gn) (Gm base rb lb lc) (by exact Sub.rf))
 refine TO.lc Vw yu ?_
 clear yu
 rintro vr O' ⟨A9,rfl,uX,uY,rfl,rfl⟩
 refine aR ?_
 refine aF (vN i) results96 F ?_
 exact⟨[oI rb 149 [(str S),vN ib,(.slice uX m.length uY),vI 0],az uX uY 72 5 (bX m)],(by exact Sub.rf),_,_,F,F⟩
theorem Rk {S:List UInt8} (rJ:S.length≤4096) {ia i ib:Nat} {l m:List ei} (hm:m.length≤1000) (h1:Ch S ia 62) (hE:vK 96 S (ia+1) l i ib m) (h2:Ch S ib 41):vK 135 S ia l m.length (ib+1) (m++[(⟨9,0,0,(i:Int),0⟩:ei)]):=by
 intro base _ rb lb lc
 refine aA func135 F ntmps135 F ?_
 have gQ:=h1.lt;have mH:=h2.lt
 refine aQ (aj (a7 ?_))
 have rI:=(cx.under (A:=[oI rb 149 [(str S),vN ia,(.slice lb l.length lc),vI 0]]) (B:=[az lb lc 72 5 (bX l)]) (O:=[oI rb 149 [(str S),vN ia,(.slice lb l.length lc),vI 0],az lb lc 72 5 (bX l)]) (uU base rb S rJ ia 62 l.length lc lb h1) (by exact Sub.rf))
 refine TO.lc l6 rI ?_
 clear rI
 rintro vr O' ⟨A9,rfl,rfl,rfl⟩
 refine aj (aQ (aS (bq (bH (aK (aG (aY bN (by omega)) (aj ?_)))))))
 refine bf (aG (bn bN (by omega)) (aj ?_))
 refine bW ?_
 refine a_ (aS (bq (aN (aX (bn d_ (by decide)) ?_))))
 refine bW ?_
 refine bo bg (ae (bu gD bM) (ae (bF 0 eO) (ae (dj (b:=1) ia F F (by omega)) (ae bg (ae (bu gD bM) (ax (c8 [(vN (ia+1))] 0 bM ?_)))))))
 refine bi (a7 ?_)
 let iB:List Lx.Item:=[oI rb 149 [(str S),(vN (ia+1)),(.slice lb l.length lc),vI 0],az lb lc 72 5 (bX l)]
 have uW:=(cx.under (A:=iB) (B:=[]) (O:=iB) (hE base rb lb lc) (by exact Sub.rf))
 refine TO.lc D4 uW ?_
 clear uW
 rintro vr O' ⟨A9,rfl,uX,uY,rfl,rfl⟩
 refine aj (a7 ?_)
 have uZ:=(cx.under (A:=[oI rb 149 [(str S),vN ib,(.slice uX m.length uY),vI 0]]) (B:=[az uX uY 72 5 (bX m)]) (O:=[oI rb 149 [(str S),vN ib,(.slice uX m.length uY),vI 0],az uX uY 72 5 (bX m)]) (Rj base rb S rJ ib 41 m.length uY uX h2) (by exact Sub.rf))
 refine TO.lc Ck uZ ?_
 clear uZ
 rintro vr O' ⟨A9,rfl,rfl,rfl⟩
 refine bi (a7 (aN (ay (dc [.int .u8 9,(.int .u8 0),(.int .u8 0),vN i,(vI 0)] oe cR (by kernel_rfl)) ?_)))
 let kp:List Lx.Item:=[oI rb 149 [(str S),vN (ib+1),(.slice uX m.length uY),vI 0],az uX uY 72 5 (bX m)]
 have MW:=(cx.under (A:=kp) (B:=[]) (O:=kp) (H4 base rb S (ib+1) uY uX m (⟨9,0,0,(i:Int),0⟩:ei) hm) (by exact Sub.rf))
 refine TO.lc Cl MW ?_
 clear MW
 rintro vr O' ⟨A9,rfl,TF,TH,rfl,rfl⟩
 refine aR ?_
 refine aF (vN m.length) results135 F ?_
 exact⟨[oI rb 149 [(str S),vN (ib+1),(.slice TF ((m++[(⟨9,0,0,(i:Int),0⟩:ei)]).length) TH),vI 0],az TF TH 72 5 (bX (m++[(⟨9,0,0,(i:Int),0⟩:ei)]))],(by exact Sub.rf),_,_,F,F⟩
theorem MX {S:List UInt8} (rJ:S.length≤4096) {ia i ib c0:Nat} {l m:List ei} (hm:m.length≤1000) (h1:Ch S ia c0) (AD:c0=40∨c0=91) (hE:vK 96 S ia l i ib m) (h2:Ch S ib 42) (h3:Ch S (ib+1) 41):vK 135 S ia l m.length (ib+1+1) (m++[(⟨8,0,0,(i:Int),0⟩:ei)]):=by
 intro base _ rb lb lc
 refine aA func135 F ntmps135 F ?_
 have gQ:=h1.lt;have mH:=h2.lt;have ad2:=h3.lt
 refine aQ (aj (a7 ?_))
 let jz:List Lx.Item:=[oI rb 149 [(str S),vN ia,(.slice lb l.length lc),vI 0],az lb lc 72 5 (bX l)]
 have rI:=(cx.under (A:=[oI rb 149 [(str S),vN ia,(.slice lb l.length lc),vI 0]]) (B:=[az lb lc 72 5 (bX l)]) (O:=jz) (uU base rb S rJ ia c0 l.length lc lb h1) (by exact Sub.rf))
 refine TO.lc l6 rI ?_
 clear rI
 rintro vr O' ⟨A9,rfl,rfl,rfl⟩
 refine aj (aQ (aS (bq (bH (aK (aG (aY bN (by omega)) (aj ?_)))))))
 refine bf (aG (aY bN (by omega)) (aj (bf (aG (aY bN (by omega)) (aj ?_)))))
 refine bf (aE (br (bo (aY d_ (by decide)) (bi (bf (aE (a7 ?_)))))))
 have D5:=(cx.under (A:=jz) (B:=[]) (O:=jz) (hE base rb lb lc) (by exact Sub.rf))
 refine TO.lc D4 D5 ?_
 clear D5
 rintro vr O' ⟨A9,rfl,uX,uY,rfl,rfl⟩
 refine aS (bq (aN ?_))
 let sJ:Lx.Item:=az uX uY 72 5 (bX m)
 let qM:Value:=(.slice uX m.length uY)
 have MY:=(cx.under (A:=[oI rb 149 [(str S),vN ib,qM,vI 0]]) (B:=[sJ]) (O:=[oI rb 149 [(str S),vN ib,qM,vI 0],sJ]) (uU base rb S rJ ib 42 m.length uY uX h2) (by exact Sub.rf))
 refine TO.lc l6 MY ?_
 clear MY
 rintro vr O' ⟨A9,rfl,rfl,rfl⟩
 refine bi (aK (aG (bn bN (by decide)) (aj ?_)))
 refine bW ?_
 refine bo bg (ae (bu gD bM) (ae (bF 0 eO) (ae (dj (b:=1) ib F F (by omega)) (ae bg (ae (bu gD bM) (ax (c8 [(vN (ib+1))] 0 bM ?_)))))))
 refine bi (a7 ?_)
 have MZ:=(cx.under (A:=[oI rb 149 [(str S),(vN (ib+1)),qM,vI 0]]) (B:=[sJ]) (O:=[oI rb 149 [(str S),(vN (ib+1)),qM,vI 0],sJ]) (Rj base rb S rJ (ib+1) 41 m.length uY uX h3) (by exact Sub.rf))
 refine TO.lc Ck MZ ?_
 clear MZ
 rintro vr O' ⟨A9,rfl,rfl,rfl⟩
 refine bi (a7 (ay (dc [.int .u8 8,(.int .u8 0),(.int .u8 0),vN i,(vI 0)] oe cR (by kernel_rfl)) ?_))
 have D6:=(cx.under (A:=[oI rb 149 [(str S),vN (ib+1+1),qM,vI 0],sJ]) (B:=[]) (O:=[oI rb 149 [(str S),vN (ib+1+1),qM,vI 0],sJ]) (H4 base rb S (ib+1+1) uY uX m (⟨8,0,0,(i:Int),0⟩:ei) hm) (by exact Sub.rf))
 refine TO.lc Cl D6 ?_
 clear D6
 rintro vr O' ⟨A9,rfl,TF,TH,rfl,rfl⟩
 refine aR ?_
 refine aF (vN m.length) results135 F ?_
 exact⟨[oI rb 149 [(str S),vN (ib+1+1),(.slice TF ((m++[(⟨8,0,0,(i:Int),0⟩:ei)]).length) TH),vI 0],az TF TH 72 5 (bX (m++[(⟨8,0,0,(i:Int),0⟩:ei)]))],(by exact Sub.rf),_,_,F,F⟩
theorem H5 {S:List UInt8} (rJ:S.length≤4096) {ia i ib j ic c0:Nat} {l m m2:List ei} (hm:m2.length≤1000) (h1:Ch S ia c0) (AD:c0=40∨c0=91) (hE:vK 96 S ia l i ib m) (h2:Ch S ib 46) (Vx:vK 96 S (ib+1) m j ic m2) (h3:Ch S ic 41):vK 135 S ia l m2.length (ic+1) (m2++[(⟨4,0,0,(i:Int),(j:Int)⟩:ei)]):=by
 intro base _ rb lb lc
 refine aA func135 F ntmps135 F ?_
 have gQ:=h1.lt;have mH:=h2.lt;have ad2:=h3.lt
 refine aQ (aj (a7 ?_))
 let np:List Lx.Item:=[oI rb 149 [(str S),vN ia,(.slice lb l.length lc),vI 0],az lb lc 72 5 (bX l)]
 have rI:=(cx.under (A:=[oI rb 149 [(str S),vN ia,(.slice lb l.length lc),vI 0]]) (B:=[az lb lc 72 5 (bX l)]) (O:=np) (uU base rb S rJ ia c0 l.length lc lb h1) (by exact Sub.rf))
 refine TO.lc l6 rI ?_
 clear rI
 rintro vr O' ⟨A9,rfl,rfl,rfl⟩
 refine aj (aQ (aS (bq (bH (aK (aG (aY bN (by omega)) (aj ?_)))))))
 refine bf (aG (aY bN (by omega)) (aj (bf (aG (aY bN (by omega)) (aj ?_)))))
 refine bf (aE (br (bo (aY d_ (by decide)) (bi (bf (aE (a7 ?_)))))))
 have D5:=(cx.under (A:=np) (B:=[]) (O:=np) (hE base rb lb lc) (by exact Sub.rf))
 refine TO.lc D4 D5 ?_
 clear D5
 rintro vr O' ⟨A9,rfl,uX,uY,rfl,rfl⟩
 refine aS (bq (aN ?_))
 have MY:=(cx.under (A:=[oI rb 149 [(str S),vN ib,(.slice uX m.length uY),vI 0]]) (B:=[az uX uY 72 5 (bX m)]) (O:=[oI rb 149 [(str S),vN ib,(.slice uX m.length uY),vI 0],az uX uY 72 5 (bX m)]) (uU base rb S rJ ib 46 m.length uY uX h2) (by exact Sub.rf))
 refine TO.lc l6 MY ?_
 clear MY
 rintro vr O' ⟨A9,rfl,rfl,rfl⟩
 refine bi (aK (aG (aY bN (by decide)) (aj (bf (aG (bn bN (by decide)) (aj ?_))))))
 refine bW ?_
 refine a_ (aj (bo bg (ae (bu gD bM) (ae (bF 0 eO) (ae (dj (b:=1) ib F F (by omega)) (ae bg (ae (bu gD bM) (ax (c8 [(vN (ib+1))] 0 bM ?_)))))))))
 refine bi (a7 ?_)
 let li:List Lx.Item:=[oI rb 149 [(str S),(vN (ib+1)),(.slice uX m.length uY),vI 0],az uX uY 72 5 (bX m)]
 have ZB:=(cx.under (A:=li) (B:=[]) (O:=li) (Vx base rb uX uY) (by exact Sub.rf))
 refine TO.lc D4 ZB ?_
 clear ZB
 rintro vr O' ⟨A9,rfl,Vy,Vz,rfl,rfl⟩
 refine aj (a7 ?_)
 let mF:Lx.Item:=oI rb 149 [(str S),vN ic,(.slice Vy m2.length Vz),vI 0]
 have M0:=(cx.under (A:=[mF]) (B:=[az Vy Vz 72 5 (bX m2)]) (O:=[mF,az Vy Vz 72 5 (bX m2)]) (Rj base rb S rJ ic 41 m2.length Vz Vy h3) (by exact Sub.rf))
 refine TO.lc Ck M0 ?_
 clear M0
 rintro vr O' ⟨A9,rfl,rfl,rfl⟩
 refine bi (a7 (de (ay (dc [.int .u8 4,(.int .u8 0),(.int .u8 0),vN i,vN j] oe cR (by kernel_rfl)) ?_)))
 let lZ:List Lx.Item:=[oI rb 149 [(str S),vN (ic+1),(.slice Vy m2.length Vz),vI 0],az Vy Vz 72 5 (bX m2)]
 have ZC:=(cx.under (A:=lZ) (B:=[]) (O:=lZ) (H4 base rb S (ic+1) Vz Vy m2 (⟨4,0,0,(i:Int),(j:Int)⟩:ei) hm) (by exact Sub.rf))
 refine TO.lc Cl ZC ?_
 clear ZC
 rintro vr O' ⟨A9,rfl,TF,TH,rfl,rfl⟩
 refine aR ?_
 refine aF (vN m2.length) results135 F ?_
 exact⟨[oI rb 149 [(str S),vN (ic+1),(.slice TF ((m2++[(⟨4,0,0,(i:Int),(j:Int)⟩:ei)]).length) TH),vI 0],az TF TH 72 5 (bX (m2++[(⟨4,0,0,(i:Int),(j:Int)⟩:ei)]))],(by exact Sub.rf),_,_,F,F⟩
theorem Cm (w:World) [dQ prog w] (o:Nat) (h1:1≤o) (h2:o≤10):
  cB prog 48 [v8 o] w fun v N=>v=vI (cX o:Int)∧N=[]:=by
 refine aA func48 F ntmps48 F ?_
 refine aQ (aS (bq (bH (aK ?_))))
 refine fF (fun ρ O=>Sub [] O∧dh [(0,v8 o),(2,vI 0),(3,v8 o),(4,.bool (decide (o=1∨o=2∨o=3)))] ρ) ?_ ?_
 ·refine br ?_
  refine a_ (ae bN (aj (aL F (fun hc=>?_) (fun hc=>?_))))
  ·have ad3:o=1:=by omega
   refine aE ?_
   exact⟨(by exact Sub.rf),⟨F,F,F,(am Value.bool (decide_eq_decide.2 (by omega))),trivial⟩⟩
  have ad4: ¬o=1:=by omega
  refine aG bN (aj (aL F (fun hc=>?_) (fun hc=>?_)))
  ·have ad3:o=2:=by omega
   refine aE ?_
   exact⟨(by exact Sub.rf),⟨F,F,F,(am Value.bool (decide_eq_decide.2 (by omega))),trivial⟩⟩
  have ad4: ¬o=2:=by omega
  refine a_ (ae bN (aj ?_))
  exact⟨(by exact Sub.rf),⟨F,F,F,(am Value.bool (decide_eq_decide.2 (by omega))),trivial⟩⟩
 rintro ρ O ⟨hS,hH⟩
 obtain⟨gv,rfl⟩:=hH.elim
 clear hH
 refine dq hS ?_
 refine aL F (fun hc=>?_) (fun hc=>?_)
 ·refine br ?_
  refine a_ (aj (cM ?_))
  refine aF (vI 0) results48 F ?_
  exact⟨am (fun n:Nat=>Value.int .i64 (n:Int)) (show 0=cX o by unfold cX;rw[aq (by omega),aq (by omega)]),F⟩
 refine fF (fun ρ O=>Sub [] O∧dh [(0,v8 o),(2,vI 0),(3,v8 o),(4,.bool (decide (o=1∨o=2∨o=3))),(8,.bool (decide (o=7∨o=8∨o=9∨o=10)))] ρ) ?_ ?_
 ·refine br ?_
  refine a_ (ae bN (aj (aL F (fun hc=>?_) (fun hc=>?_))))
  ·have VC:o=7:=by omega
   refine aE ?_
   exact⟨(by exact Sub.rf),⟨F,F,F,F,(am Value.bool (decide_eq_decide.2 (by omega))),trivial⟩⟩
  have VD: ¬o=7:=by omega
  refine aG bN (aj (aL F (fun hc=>?_) (fun hc=>?_)))
  ·have VC:o=8:=by omega
   refine aE ?_
   exact⟨(by exact Sub.rf),⟨F,F,F,F,(am Value.bool (decide_eq_decide.2 (by omega))),trivial⟩⟩
  have VD: ¬o=8:=by omega
  refine aG bN (aj (aL F (fun hc=>?_) (fun hc=>?_)))
  ·have VC:o=9:=by omega
   refine aE ?_
   exact⟨(by exact Sub.rf),⟨F,F,F,F,(am Value.bool (decide_eq_decide.2 (by omega))),trivial⟩⟩
  have VD: ¬o=9:=by omega
  refine a_ (ae bN (aj ?_))
  exact⟨(by exact Sub.rf),⟨F,F,F,F,(am Value.bool (decide_eq_decide.2 (by omega))),trivial⟩⟩
 rintro ρ O ⟨hS,hH⟩
 obtain⟨gv,rfl⟩:=hH.elim
 clear hH
 refine dq hS ?_
 refine aL F (fun hc=>?_) (fun hc=>?_)
 ·refine br ?_
  refine a_ (aj (cM ?_))
  refine aF (vI 1) results48 F ?_
  exact⟨am (fun n:Nat=>Value.int .i64 (n:Int)) (show 1=cX o by unfold cX;rw[aq (by omega),aB (by omega)]),F⟩
 refine fF (fun ρ O=>Sub [] O∧dh [(0,v8 o),(2,vI 0),(3,v8 o),(4,.bool (decide (o=1∨o=2∨o=3))),(8,.bool (decide (o=7∨o=8∨o=9∨o=10))),(13,.bool (decide (o=4∨o=5∨o=6)))] ρ) ?_ ?_
 ·refine br ?_
  refine a_ (ae bN (aj (aL F (fun hc=>?_) (fun hc=>?_))))
  ·have mr:o=4:=by omega
   refine aE ?_
   exact⟨(by exact Sub.rf),⟨F,F,F,F,F,(am Value.bool (decide_eq_decide.2 (by omega))),trivial⟩⟩
  have M1: ¬o=4:=by omega
  refine aG bN (aj (aL F (fun hc=>?_) (fun hc=>?_)))
  ·have mr:o=5:=by omega
   refine aE ?_
   exact⟨(by exact Sub.rf),⟨F,F,F,F,F,(am Value.bool (decide_eq_decide.2 (by omega))),trivial⟩⟩
  have M1: ¬o=5:=by omega
  refine a_ (ae bN (aj ?_))
  exact⟨(by exact Sub.rf),⟨F,F,F,F,F,(am Value.bool (decide_eq_decide.2 (by omega))),trivial⟩⟩
 rintro ρ O ⟨hS,hH⟩
 obtain⟨gv,rfl⟩:=hH.elim
 clear hH
 refine dq hS ?_
 refine aL F (fun hc=>?_) (fun hc=>?_)
 ·refine br ?_
  refine a_ (aj (cM ?_))
  refine aF (vI 2) results48 F ?_
  exact⟨am (fun n:Nat=>Value.int .i64 (n:Int)) (show 2=cX o by unfold cX;rw[aB (by omega)]),F⟩
 refine aE (aQ (aj (cM ?_)))
 refine aF (vI (-1)) results48 F ?_
 exact absurd h1 (by omega)
theorem ZD (w:World) [dQ prog w] (o:Nat):
  cB prog 80 [v8 o] w fun v N=>v=.bool (decide (o=9)||decide (o=10))∧N=[]:=by
 refine aA func80 F ntmps80 F ?_
 refine aQ (aj (a7 ?_))
 by_cases h9:((o:Nat):Int)=9
 ·refine ae (bn bN h9) ?_
  refine aN (cK (ae bw (aj (cM ?_))))
  refine aF (.bool true) results80 F ?_
  exact⟨am Value.bool (by rw[aZ (show o=9 by omega)];rfl),F⟩
 refine ae (aY bN h9) (aN (ao aw (ao bN (ae bU (aj (cM ?_))))))
 refine aF (.bool (decide (((o:Nat):Int)=10))) results80 F ?_
 exact⟨am Value.bool (by rw[a8 (show¬o=9 by omega)];exact decide_eq_decide.2 (by omega)),F⟩
theorem C9 {v p n:Nat} (h:2^v≤p∨2^v≤n):xI v p n=7:=by
 have h1:p≤p|||n:=Nat.left_le_or
 have h2:n≤p|||n:=Nat.right_le_or
 exact aB (by omega)
theorem C_ {v p n:Nat} (h1:p<2^v) (h2:n<2^v) (h3:p&&&n≠0):xI v p n=2:=by
 have:=Nat.or_lt_two_pow h1 h2
 exact(aq (by omega)).trans (aB h3)
theorem Da {v p n:Nat} (h1:p<2^v) (h2:n<2^v) (h3:p&&&n=0):xI v p n=0:=by
 have:=Nat.or_lt_two_pow h1 h2
 exact(aq (by omega)).trans (aq (by omega))
def ju (x:ei):Prop:=(x.op≠3∧(x.p≠0∨x.n≠0))∨(cX x.op<1∧x.a≠0)∨(cX x.op<2∧x.b≠0)
instance (x:ei):Decidable (ju x):=by unfold ju;infer_instance
theorem UR {p n:Nat}:(p|||n)≠0↔p≠0∨n≠0:=by
 have h1:p≤p|||n:=Nat.left_le_or
 have h2:n≤p|||n:=Nat.right_le_or
 constructor
 ·intro h
  rcases Nat.eq_zero_or_pos p with c|c
  ·subst c;rw[Nat.zero_or]at h;exact .inr h
  ·exact .inl (by omega)
 ·intro h;omega
theorem X3 {v:Nat} {x:ei} (h:x.op<1∨10<x.op):jZ v x=6:=aB h
theorem X4 {v:Nat} {x:ei} (h: ¬(x.op<1∨10<x.op)) (hf:ju x):jZ v x=2:=by
 unfold jZ;rw[aq h,aB (by rw[UR];exact hf)]
theorem P4 {v:Nat} {x:ei} (h: ¬(x.op<1∨10<x.op)) (hf: ¬ju x):jZ v x=if x.op=3 then xI v x.p x.n else 0:=by
 unfold jZ;rw[aq h,aq (by rw[UR];exact hf)]
theorem X5 (w:World) [dQ prog w] (o:Nat) (h1:o<1∨10<o):
  cB prog 48 [v8 o] w fun v N=>v=vI (-1)∧N=[]:=by
 refine aA func48 F ntmps48 F ?_
 refine aQ (aS (bq (bH (aK (br (aG (aY bN (by omega)) (aj (bf ?_))))))))
 refine aG (aY bN (by omega)) (aj (bf (a_ (ae (aY bN (by omega)) (aj (bf ?_))))))
 refine br (aG (aY bN (by omega)) (aj (bf (aG (aY bN (by omega)) (aj (bf ?_))))))
 refine aG (aY bN (by omega)) (aj (bf (a_ (ae (aY bN (by omega)) (aj (bf ?_))))))
 refine br (aG (aY bN (by omega)) (aj (bf (aG (aY bN (by omega)) (aj (bf ?_))))))
 refine a_ (ae (aY bN (by omega)) (aj (bf (aE (aQ (aj (cM ?_)))))))
 refine aF (vI (-1)) results48 F ?_
 exact⟨F,F⟩
theorem X6 (w:World) [dQ prog w] (p n v:Nat) (hp:p<256) (hn:n<256) (hv:v≤6):
  cB prog 79 [.agg #[v8 p,v8 n],vN v] w fun r N=>r=vN (xI v p n)∧N=[]:=by
 refine aA func79 F ntmps79 F ?_
 have hvt:(2:Nat)^((v:Int)).toNat=2^v:=by simp
 refine aQ (ax (ef [v8 p,v8 n] (fun om=>?_)))
 refine aS (bq (ay (aY cV (by omega)) (aN (ao aw (ao (aY gT (by omega)) (aX bU (bf ?_)))))))
 refine aE (a7 ?_)
 have Ew:=fun(w1:World) (hI:Inv w [oI om 129 [v8 p,v8 n]] w1)=>(haveI:=eP hI;yo w1 (v:Int) (by omega) (by omega))
 refine TO.lc L6 (aO Ew) ?_
 clear Ew
 rintro vr O' ⟨N,rfl,rfl,rfl⟩
 refine aS (bq (ae (bu l7 eN) (ae (bF 0 il) (ae (gi il eO F (by first|rfl|exact gX ⟨by omega,by omega⟩|exact rA (by omega)|exact oO (by omega))) (ay km ?_)))))
 by_cases Dd:((p:Nat):Int)≥((2^v:Nat):Int)
 ·refine ae (bn aw Dd) ?_
  refine cY (du (aX bw ?_))
  refine bW ?_
  refine aQ (aR ?_)
  refine aF (vI 7) results79 F ?_
  exact⟨[],Sub.z,am (fun n9:Nat=>Value.int .i64 ((n9:Nat):Int)) (by first|exact(C9 (by omega)).symm|exact(C_ (by omega) (by omega) (by omega)).symm|exact(Da (by omega) (by omega) (by omega)).symm),F⟩
 refine ae (aY aw Dd) (ao (bu l7 eN) (ao (bF 0 il) (ao (gi il eO F (by first|rfl|exact gX ⟨by omega,by omega⟩|exact rA (by omega)|exact oO (by omega))) (ao aw (ao km (aX bU (aL F (fun hc=>?_) (fun hc=>?_))))))))
 ·have ah0:n≥2^v:=by omega
  refine aQ (aR ?_)
  refine aF (vI 7) results79 F ?_
  exact⟨[],Sub.z,am (fun n9:Nat=>Value.int .i64 ((n9:Nat):Int)) (by first|exact(C9 (by omega)).symm|exact(C_ (by omega) (by omega) (by omega)).symm|exact(Da (by omega) (by omega) (by omega)).symm),F⟩
 have ah1: ¬n≥2^v:=by omega
 refine aE (br (aG (bu l7 eN) (ae (bF 0 il) (ae (bu l7 eN) (ae (bF 0 il) (ae (Bj (a:=p) (b:=n) .u8 F F (by show _<256;omega) (by show _<256;omega)) (aX d_ (aL F (fun hc=>?_) (fun hc=>?_)))))))))
 ·have abe:p&&&n≠0:=by omega
  refine aQ (aR ?_)
  refine aF (vI 2) results79 F ?_
  exact⟨[],Sub.z,am (fun n9:Nat=>Value.int .i64 ((n9:Nat):Int)) (by first|exact(C9 (by omega)).symm|exact(C_ (by omega) (by omega) (by omega)).symm|exact(Da (by omega) (by omega) (by omega)).symm),F⟩
 have abf: ¬p&&&n≠0:=by omega
 refine aE (aQ (aR ?_))
 refine aF (vI 0) results79 F ?_
 exact⟨[],Sub.z,am (fun n9:Nat=>Value.int .i64 ((n9:Nat):Int)) (by first|exact(C9 (by omega)).symm|exact(C_ (by omega) (by omega) (by omega)).symm|exact(Da (by omega) (by omega) (by omega)).symm),F⟩
theorem S0 (w:World) [dQ prog w] (x:ei) (v:Nat) (hp:x.p<256) (hn:x.n<256) (hv:v≤6) (h9:x.op<1∨10<x.op):
  cB prog 47 [x.ag,vN v] w fun r N=>r=vN (jZ v x)∧N=[]:=by
 refine aA func47 F ntmps47 F ?_
 refine aQ (ax (ef x.cl (fun om=>?_)))
 refine aj (aG (bu dz eN) (ae (bF 0 il) ?_))
 have Et:=fun(w1:World) (hI:Inv w [oI om 72 x.cl] w1)=>(haveI:=eP hI;X5 w1 x.op h9)
 refine TO.lc EP (aO Et) ?_
 clear Et
 rintro vr O' ⟨N,rfl,rfl,rfl⟩
 refine aS (bq (aN (aX (bn cV (by decide)) ?_)))
 refine bW ?_
 refine aQ (aR ?_)
 refine aF (vI 6) results47 F ?_
 exact⟨[],Sub.z,by rw[X3 h9];rfl,F⟩
theorem S1 (w:World) [dQ prog w] (x:ei) (v:Nat) (hp:x.p<256) (hn:x.n<256) (hv:v≤6) (h9: ¬(x.op<1∨10<x.op)):
  cB prog 47 [x.ag,vN v] w fun r N=>r=vN (jZ v x)∧N=[]:=by
 refine aA func47 F ntmps47 F ?_
 have xK:1≤x.op:=by omega
 have uw:x.op≤10:=by omega
 refine aQ (ax (ef x.cl (fun om=>?_)))
 refine aj (aG (bu dz eN) (ae (bF 0 il) ?_))
 have Et:=fun(w1:World) (hI:Inv w [oI om 72 x.cl] w1)=>(haveI:=eP hI;Cm w1 x.op xK uw)
 refine TO.lc EP (aO Et) ?_
 clear Et
 rintro vr O' ⟨N,rfl,rfl,rfl⟩
 refine aS (bq (aN (aX (aY cV (by omega)) (bf (aE ?_)))))
 refine fF (fun ρ O=>Sub [oI om 72 x.cl] O∧(¬ju x)∧dh [(0,x.ag),(1,vN v),(2,(.pointer (aD om))),(5,vN (cX x.op))] ρ) ?_ ?_
 ·refine fF (fun ρ O=>Sub [oI om 72 x.cl] O∧dh [(0,x.ag),(1,vN v),(2,(.pointer (aD om))),(4,vI 0),(5,vN (cX x.op)),(41,.bool (decide (ju x)))] ρ) ?_ ?_
  ·refine a_ ?_
   refine ae (bu dz eN) (ae (bF 0 il) (ae d_ ?_))
   by_cases h3:((x.op:Nat):Int)≠3
   ·refine ae (bn aw h3) ?_
    refine ao (bu dz eN) (ao (bF 0 il) (ao d_ ?_))
    by_cases Dd:((x.p:Nat):Int)≠0
    ·refine ao (bn aw Dd) ?_
     refine cY (cK (ao bw (ae bw (aN (cY (cK ?_))))))
     refine du (ae bw (aN (cY (cK ?_))))
     refine du (aX bw ?_)
     exact⟨(by exact Sub.rf),⟨F,F,F,F,F,(am Value.bool (aZ (show ju x by unfold ju;omega)).symm),trivial⟩⟩
    refine ao (aY aw Dd) (ao (bu dz eN) (ao (bF 0 il) (ao d_ (ao bU (ae bw ?_)))))
    by_cases hn9:((x.n:Nat):Int)≠0
    ·refine ae (bn aw hn9) ?_
     refine cY (cK (du (ae bw (aN ?_))))
     refine cY (cK (du (ae bw ?_)))
     refine bi ?_
     exact⟨(by exact Sub.rf),⟨F,F,F,F,F,(am Value.bool (aZ (show ju x by unfold ju;omega)).symm),trivial⟩⟩
    refine ae (aY aw hn9) (ao aw (ao cV ?_))
    by_cases AD:((cX x.op:Nat):Int)<1
    ·refine ao (bn aw AD) ?_
     refine ao (bu dz bM) (ao (bF 0 eO) (ao d_ (ao bw (ae bU ?_))))
     by_cases Nq:x.a≠0
     ·refine ae (bn aw Nq) ?_
      refine cY (cK (du (ae bw ?_)))
      refine bi ?_
      exact⟨(by exact Sub.rf),⟨F,F,F,F,F,(am Value.bool (aZ (show ju x by unfold ju;omega)).symm),trivial⟩⟩
     refine ae (aY aw Nq) (ao aw (ao cV ?_))
     by_cases rH:((cX x.op:Nat):Int)<2
     ·refine ao (bn aw rH) ?_
      refine ao (bu dz bM) (ao (bF 0 eO) (ao d_ (ao bw (aX bU ?_))))
      exact⟨(by exact Sub.rf),⟨F,F,F,F,F,(am Value.bool (decide_eq_decide.2 (by unfold ju;omega))),trivial⟩⟩
     refine ao (aY aw rH) (cY (cK (ao bU (aX bU ?_))))
     exact⟨(by exact Sub.rf),⟨F,F,F,F,F,(am Value.bool (a8 (show¬ju x by unfold ju;omega)).symm),trivial⟩⟩
    refine ao (aY aw AD) (cY (cK (ao bU (ae bU (aN (ao aw (ao cV ?_)))))))
    by_cases rH:((cX x.op:Nat):Int)<2
    ·refine ao (bn aw rH) ?_
     refine ao (bu dz bM) (ao (bF 0 eO) (ao d_ (ao bw (aX bU ?_))))
     exact⟨(by exact Sub.rf),⟨F,F,F,F,F,(am Value.bool (decide_eq_decide.2 (by unfold ju;omega))),trivial⟩⟩
    refine ao (aY aw rH) (cY (cK (ao bU (aX bU ?_))))
    exact⟨(by exact Sub.rf),⟨F,F,F,F,F,(am Value.bool (a8 (show¬ju x by unfold ju;omega)).symm),trivial⟩⟩
   refine ae (aY aw h3) (cY (cK (du ?_)))
   refine cY (ae bU (aN (ao aw (ao cV ?_))))
   by_cases AD:((cX x.op:Nat):Int)<1
   ·refine ao (bn aw AD) ?_
    refine ao (bu dz bM) (ao (bF 0 eO) (ao d_ (ao bw (ae bU ?_))))
    by_cases Nq:x.a≠0
    ·refine ae (bn aw Nq) ?_
     refine cY (cK (du (ae bw ?_)))
     refine bi ?_
     exact⟨(by exact Sub.rf),⟨F,F,F,F,F,(am Value.bool (aZ (show ju x by unfold ju;omega)).symm),trivial⟩⟩
    refine ae (aY aw Nq) (ao aw (ao cV ?_))
    by_cases rH:((cX x.op:Nat):Int)<2
    ·refine ao (bn aw rH) ?_
     refine ao (bu dz bM) (ao (bF 0 eO) (ao d_ (ao bw (aX bU ?_))))
     exact⟨(by exact Sub.rf),⟨F,F,F,F,F,(am Value.bool (decide_eq_decide.2 (by unfold ju;omega))),trivial⟩⟩
    refine ao (aY aw rH) (cY (cK (ao bU (aX bU ?_))))
    exact⟨(by exact Sub.rf),⟨F,F,F,F,F,(am Value.bool (a8 (show¬ju x by unfold ju;omega)).symm),trivial⟩⟩
   refine ao (aY aw AD) (cY (cK (ao bU (ae bU (aN (ao aw (ao cV ?_)))))))
   by_cases rH:((cX x.op:Nat):Int)<2
   ·refine ao (bn aw rH) ?_
    refine ao (bu dz bM) (ao (bF 0 eO) (ao d_ (ao bw (aX bU ?_))))
    exact⟨(by exact Sub.rf),⟨F,F,F,F,F,(am Value.bool (decide_eq_decide.2 (by unfold ju;omega))),trivial⟩⟩
   refine ao (aY aw rH) (cY (cK (ao bU (aX bU ?_))))
   exact⟨(by exact Sub.rf),⟨F,F,F,F,F,(am Value.bool (a8 (show¬ju x by unfold ju;omega)).symm),trivial⟩⟩
  rintro ρ O ⟨hS,hH⟩
  obtain⟨gv,rfl⟩:=hH.elim
  clear hH
  refine dq hS ?_
  refine aL (p:=ju x) F (fun hc=>?_) (fun hc=>?_)
  ·have Lt:ju x:=hc
   refine aQ (aR ?_)
   refine aF (vI 2) results47 F ?_
   exact⟨[],Sub.z,by rw[X4 h9 Lt];rfl,F⟩
  have Lt: ¬ju x:=hc
  refine aE ?_
  exact⟨(by exact Sub.rf),Lt,⟨F,F,F,F,trivial⟩⟩
 rintro ρ O ⟨hS,Lt,hH⟩
 obtain⟨gv,rfl⟩:=hH.elim
 clear hH
 refine dq hS ?_
 refine br (aG (bu dz eN) (ae (bF 0 il) (aX bN (aL F (fun hc=>?_) (fun hc=>?_)))))
 ·have nv:x.op=3:=by omega
  refine aG (bu dz eN) (ae (bF 0 il) (ae (bu dz eN) (ae (bF 0 il) (ae (dc [v8 x.p,v8 x.n] uV jX (by kernel_rfl)) (aN ?_)))))
  have NK:=fun(w1:World) (hI:Inv w [oI om 72 x.cl] w1)=>(haveI:=eP hI;X6 w1 x.p x.n v hp hn hv)
  refine TO.lc abw (aO NK) ?_
  clear NK
  rintro vr O' ⟨N,rfl,rfl,rfl⟩
  refine aR ?_
  refine aF (vN (xI v x.p x.n)) results47 F ?_
  exact⟨[],Sub.z,by rw[P4 h9 Lt,aB (show x.op=3 by omega)],F⟩
 have Tm: ¬x.op=3:=by omega
 refine aE (aQ (aR ?_))
 refine aF (vI 0) results47 F ?_
 exact⟨[],Sub.z,by rw[P4 h9 Lt,aq (show¬x.op=3 by omega)];rfl,F⟩
theorem S3 (w:World) [dQ prog w] (x:ei) (v:Nat) (hp:x.p<256) (hn:x.n<256) (hv:v≤6):
  cB prog 47 [x.ag,vN v] w fun r N=>r=vN (jZ v x)∧N=[]:=by
 by_cases h9:x.op<1∨10<x.op
 ·exact S0 w x v hp hn hv h9
 ·exact S1 w x v hp hn hv h9
theorem P5 (w:World) [dQ prog w] (eb:Option Addr) (ec:Nat) (e:List ei) (hE:Sl w eb (bX e)) (i:Nat) (fr:Bool) (hi:i<e.length) (xK:1≤e[i].op) (uw:e[i].op≤10) (VA:Bool) (Iz:1≤cX e[i].op→ ∀w1 [dQ prog w1],Inv w [] w1→cB prog 49 [(.slice eb e.length ec),vI e[i].a,.bool (fr&&decide (e[i].op=4∨e[i].op=5))] w1 fun v N=>v=.bool VA∧N=[]) (VB:Bool) (Ox:2≤cX e[i].op→ ∀w1 [dQ prog w1],Inv w [] w1→cB prog 49 [(.slice eb e.length ec),vI e[i].b,.bool (fr&&decide (e[i].op=4∨e[i].op=5))] w1 fun v N=>v=.bool VB∧N=[]):
  cB prog 49 [(.slice eb e.length ec),vN i,.bool fr] w fun v N=>v=.bool (((decide (e[i].op=9)||decide (e[i].op=10))&&!fr)||((decide (1≤cX e[i].op)&&VA)||(decide (2≤cX e[i].op)&&VB)))∧N=[]:=by
 refine aA func49 F ntmps49 F ?_
 have Yt:=UD e[i].op
 refine aQ (aj ?_)
 let eH:Value:=(.slice eb e.length ec)
 refine fF (fun ρ O=>Sub [] O∧(((decide (e[i].op=9)||decide (e[i].op=10))&&!fr)=false)∧dh [(0,eH),(1,vN i),(2,.bool fr)] ρ) ?_ ?_
 ·refine fF (fun ρ O=>Sub [] O∧dh [(0,eH),(1,vN i),(2,.bool fr),(6,.bool false),(17,.bool ((decide (e[i].op=9)||decide (e[i].op=10))&&!fr))] ρ) ?_ ?_
  ·refine a_ ?_
   refine aN (ay (eF (i:=i) dX cR F F (a6 hE) hi (by rw[cE];omega)) (ae (cF dz F eN F F (a6 hE) (by rw[cE];omega)) ?_))
   refine ae (dD il F F hE (gk (ak hi) 0 (by show 0<5;decide))) ?_
   have Ew:=fun(w1:World) (hI:Inv w [] w1)=>(haveI:=eP hI;ZD w1 e[i].op)
   refine TO.lc abx (aO Ew) ?_
   clear Ew
   rintro vr O' ⟨N,rfl,rfl,rfl⟩
   by_cases Ot:(decide (e[i].op=9)||decide (e[i].op=10))=true
   ·refine ae (eT aw (Ot)) ?_
    refine ao aw (ao g_ (aX bw ?_))
    exact⟨(by exact Sub.rf),⟨F,F,F,F,(am Value.bool (by rw[Ot,Bool.true_and])),trivial⟩⟩
   refine ae (eT aw (Bool.eq_false_iff.2 Ot)) (cK (aX bU ?_))
   exact⟨(by exact Sub.rf),⟨F,F,F,F,(am Value.bool (by rw[Bool.eq_false_iff.2 Ot];rfl)),trivial⟩⟩
  rintro ρ O ⟨hS,hH⟩
  obtain⟨gv,rfl⟩:=hH.elim
  clear hH
  refine dq hS ?_
  refine aL (p:=((decide (e[i].op=9)||decide (e[i].op=10))&&!fr)=true) (am Value.bool (by cases((decide (e[i].op=9)||decide (e[i].op=10))&&!fr)<;>rfl)) (fun hc=>?_) (fun hc=>?_)
  ·have uf:((decide (e[i].op=9)||decide (e[i].op=10))&&!fr)=true:=hc
   refine aQ (aj (cM ?_))
   refine aF (.bool true) results49 F ?_
   exact⟨am Value.bool (by rw[uf];rfl),F⟩
  have uf:((decide (e[i].op=9)||decide (e[i].op=10))&&!fr)=false:=Bool.eq_false_iff.2 hc
  refine aE ?_
  exact⟨(by exact Sub.rf),uf,⟨F,F,F,trivial⟩⟩
 rintro ρ O ⟨hS,uf,hH⟩
 obtain⟨gv,rfl⟩:=hH.elim
 clear hH
 refine dq hS ?_
 refine fF (fun ρ O=>Sub [] O∧dh [(0,eH),(1,vN i),(2,.bool fr),(7,.bool (fr&&decide (e[i].op=4∨e[i].op=5)))] ρ) ?_ ?_
 ·refine a_ ?_
  refine aN ?_
  by_cases Oy:fr=true
  ·refine ae (eT aw (Oy)) ?_
   refine ao aw (ao aw (ao (eF (i:=i) dX cR F F (a6 hE) hi (by rw[cE];omega)) (ao (cF dz F eN F F (a6 hE) (by rw[cE];omega)) ?_)))
   refine ao (dD il F F hE (gk (ak hi) 0 (by show 0<5;decide))) ?_
   refine ao bN ?_
   by_cases h4:((e[i].op:Nat):Int)=4
   ·refine ao (bn aw h4) ?_
    refine cK (du (ao bw (ae bw (aS ?_))))
    refine bi ?_
    exact⟨(by exact Sub.rf),⟨F,F,F,(am Value.bool (by rw[Oy,aZ (show e[i].op=4∨e[i].op=5 by omega)];rfl)),trivial⟩⟩
   refine ao (aY aw h4) (ao aw (ao aw (ao (eF (i:=i) dX cR F F (a6 hE) hi (by rw[cE];omega)) (ao (cF dz F eN F F (a6 hE) (by rw[cE];omega)) ?_))))
   refine ao (dD il F F hE (gk (ak hi) 0 (by show 0<5;decide))) ?_
   refine ao bN (ao bU (ae bw (aj ?_)))
   exact⟨(by exact Sub.rf),⟨F,F,F,(am Value.bool (by rw[Oy,Bool.true_and];exact decide_eq_decide.2 (by omega))),trivial⟩⟩
  refine ae (eT aw (Bool.eq_false_iff.2 Oy)) (cY (cK (du ?_)))
  refine cY (cK (du (ae bU (aS ?_))))
  refine bi ?_
  exact⟨(by exact Sub.rf),⟨F,F,F,(am Value.bool (by rw[Bool.eq_false_iff.2 Oy];rfl)),trivial⟩⟩
 rintro ρ O ⟨hS,hH⟩
 obtain⟨gv,rfl⟩:=hH.elim
 clear hH
 refine dq hS ?_
 refine br (a7 (ay (eF (i:=i) dX cR F F (a6 hE) hi (by rw[cE];omega)) (ae (cF dz F eN F F (a6 hE) (by rw[cE];omega)) ?_)))
 refine ae (dD il F F hE (gk (ak hi) 0 (by show 0<5;decide))) ?_
 have pI:=fun(w1:World) (hI:Inv w [] w1)=>(haveI:=eP hI;Cm w1 e[i].op xK uw)
 refine TO.lc EP (aO pI) ?_
 clear pI
 rintro vr O' ⟨N,rfl,rfl,rfl⟩
 refine bi (aK (aG bN (aj (aL F (fun hc=>?_) (fun hc=>?_)))))
 ·have wY:cX e[i].op=1:=by omega
  refine a7 (aN (ay (eF (i:=i) dX cR F F (a6 hE) hi (by rw[cE];omega)) ?_))
  refine ae (cF dz F bM F F (a6 hE) (by rw[cE];omega)) (ae (dD eO F F hE (gk (ak hi) 3 (by show 3<5;decide))) (aN ?_))
  have acv:=fun(w1:World) (hI:Inv w [] w1)=>(haveI:=eP hI;Iz (by omega) w1 hI.oE)
  refine TO.lc IC (aO acv) ?_
  clear acv
  rintro vr O' ⟨N,rfl,rfl,rfl⟩
  refine aj (cM ?_)
  refine aF (.bool VA) results49 F ?_
  exact⟨am Value.bool (by first|(rw[uf,aZ (show 1≤cX e[i].op by omega),aZ (show 2≤cX e[i].op by omega)];simp;done)|(rw[uf,aZ (show 1≤cX e[i].op by omega),aZ (show 2≤cX e[i].op by omega),F2];simp;done)|(rw[uf,aZ (show 1≤cX e[i].op by omega),aZ (show 2≤cX e[i].op by omega),Bool.eq_false_iff.2 F2];simp;done)|(rw[uf,aZ (show 1≤cX e[i].op by omega),a8 (show¬2≤cX e[i].op by omega)];simp;done)|(rw[uf,a8 (show¬1≤cX e[i].op by omega),a8 (show¬2≤cX e[i].op by omega)];simp;done)|(rw[uf];rfl;done)),F⟩
 have Ty: ¬cX e[i].op=1:=by omega
 refine aG bN (aj (aL F (fun hc=>?_) (fun hc=>?_)))
 ·have ah2:cX e[i].op=2:=by omega
  refine a7 (aN (ay (eF (i:=i) dX cR F F (a6 hE) hi (by rw[cE];omega)) ?_))
  refine ae (cF dz F bM F F (a6 hE) (by rw[cE];omega)) (ae (dD eO F F hE (gk (ak hi) 3 (by show 3<5;decide))) (aN ?_))
  have Ov:=fun(w1:World) (hI:Inv w [] w1)=>(haveI:=eP hI;Iz (by omega) w1 hI.oE)
  refine TO.lc IC (aO Ov) ?_
  clear Ov
  rintro vr O' ⟨N,rfl,rfl,rfl⟩
  by_cases F2:VA=true
  ·refine ae (eT aw (F2)) ?_
   refine du (du ?_)
   refine ae bw (aj (cM ?_))
   refine aF (.bool true) results49 F ?_
   exact⟨am Value.bool (by first|(rw[uf,aZ (show 1≤cX e[i].op by omega),aZ (show 2≤cX e[i].op by omega)];simp;done)|(rw[uf,aZ (show 1≤cX e[i].op by omega),aZ (show 2≤cX e[i].op by omega),F2];simp;done)|(rw[uf,aZ (show 1≤cX e[i].op by omega),aZ (show 2≤cX e[i].op by omega),Bool.eq_false_iff.2 F2];simp;done)|(rw[uf,aZ (show 1≤cX e[i].op by omega),a8 (show¬2≤cX e[i].op by omega)];simp;done)|(rw[uf,a8 (show¬1≤cX e[i].op by omega),a8 (show¬2≤cX e[i].op by omega)];simp;done)|(rw[uf];rfl;done)),F⟩
  refine ae (eT aw (Bool.eq_false_iff.2 F2)) (ao aw (ao aw (ao aw (ao (eF (i:=i) dX cR F F (a6 hE) hi (by rw[cE];omega)) (ao (cF dz F bM F F (a6 hE) (by rw[cE];omega)) ?_)))))
  refine ao (dD eO F F hE (gk (ak hi) 4 (by show 4<5;decide))) ?_
  refine ao aw ?_
  have Pz:=fun(w1:World) (hI:Inv w [] w1)=>(haveI:=eP hI;Ox (by omega) w1 hI.oE)
  refine gF F F F (eh IC (aO Pz) ?_)
  clear Pz
  rintro vr O' ⟨N,rfl,rfl,rfl⟩
  refine ae bU (aj (cM ?_))
  refine aF (.bool VB) results49 F ?_
  exact⟨am Value.bool (by first|(rw[uf,aZ (show 1≤cX e[i].op by omega),aZ (show 2≤cX e[i].op by omega)];simp;done)|(rw[uf,aZ (show 1≤cX e[i].op by omega),aZ (show 2≤cX e[i].op by omega),F2];simp;done)|(rw[uf,aZ (show 1≤cX e[i].op by omega),aZ (show 2≤cX e[i].op by omega),Bool.eq_false_iff.2 F2];simp;done)|(rw[uf,aZ (show 1≤cX e[i].op by omega),a8 (show¬2≤cX e[i].op by omega)];simp;done)|(rw[uf,a8 (show¬1≤cX e[i].op by omega),a8 (show¬2≤cX e[i].op by omega)];simp;done)|(rw[uf];rfl;done)),F⟩
 have ah3: ¬cX e[i].op=2:=by omega
 refine aE (aQ (aj (cM ?_)))
 refine aF (.bool false) results49 F ?_
 exact⟨am Value.bool (by first|(rw[uf,aZ (show 1≤cX e[i].op by omega),aZ (show 2≤cX e[i].op by omega)];simp;done)|(rw[uf,aZ (show 1≤cX e[i].op by omega),aZ (show 2≤cX e[i].op by omega),F2];simp;done)|(rw[uf,aZ (show 1≤cX e[i].op by omega),aZ (show 2≤cX e[i].op by omega),Bool.eq_false_iff.2 F2];simp;done)|(rw[uf,aZ (show 1≤cX e[i].op by omega),a8 (show¬2≤cX e[i].op by omega)];simp;done)|(rw[uf,a8 (show¬1≤cX e[i].op by omega),a8 (show¬2≤cX e[i].op by omega)];simp;done)|(rw[uf];rfl;done)),F⟩
theorem X7 (eb:Option Addr) (ec:Nat) (e:List ei) {v:Nat} {fs:List Nat} (hb:j7 v e=.ok fs): ∀(f i:Nat) (fr:Bool) (w:World) [dQ prog w] (hE:Sl w eb (bX e)) (hi:i<e.length),i<f→cB prog 49 [(.slice eb e.length ec),vN i,.bool fr] w fun r N=>r=.bool (!lR e f i fr)∧N=[]
 |0,i,fr,w,_,_,hi,hf=>absurd hf (by omega)
 |f+1,i,fr,w,_,hE,hi,hf=>by
  have ht:=pP hb i hi
  obtain⟨xK,uw,_⟩:=lM (qA hb hi)
  refine(P5 w eb ec e hE i fr hi xK uw (!lR e f e[i].a.toNat (fr&&decide (e[i].op=4∨e[i].op=5))) (fun h w2 _ qK=>?_) (!lR e f e[i].b.toNat (fr&&decide (e[i].op=4∨e[i].op=5))) (fun h w2 _ qK=>?_)).mono ?_
  ·obtain⟨j,hj,B6⟩:=ht.1 h
   rw[hj,Int.toNat_natCast]
   exact X7 eb ec e hb f j _ w2 (qK.sl hE) (by omega) (by omega)
  ·obtain⟨j,hj,B6⟩:=ht.2 h
   rw[hj,Int.toNat_natCast]
   exact X7 eb ec e hb f j _ w2 (qK.sl hE) (by omega) (by omega)
  ·rintro r N ⟨rfl,rfl⟩
   refine⟨am Value.bool ?_,F⟩
   rw[nI hi]
   have q1:decide (1≤cX e[i].op)=!decide (cX e[i].op<1):=by by_cases c:cX e[i].op<1<;>simp[c]<;>omega
   have q2:decide (2≤cX e[i].op)=!decide (cX e[i].op<2):=by by_cases c:cX e[i].op<2<;>simp[c]<;>omega
   rw[q1,q2]
   by_cases c:(e[i].op=9∨e[i].op=10)∧fr=false
   ·rw[aB c,c.2]
    have:(decide (e[i].op=9)||decide (e[i].op=10))=true:=by simpa using c.1
    rw[this];rfl
   ·rw[aq c]
    have:((decide (e[i].op=9)||decide (e[i].op=10))&&!fr)=false:=by
     cases fr with
     |true=>simp
     |false=>simp at c⊢;exact c
    rw[this,Bool.false_or,Bool.not_and,Bool.not_or,Bool.not_or]
theorem S4 {v:Nat} {fs:List Nat} {x:ei} (h:jZ v x≠0):gI v fs x=.error (jZ v x):=aB h
theorem qG {v:Nat} {fs:List Nat} {x:ei} (h:jZ v x=0) (h1:cX x.op=1):gI v fs x=if fs.length=0∨x.a≠(fs.length:Int)-1 then .error 8 else .ok (fs.getD (fs.length-1) 0):=by
 unfold gI;rw[aq (by omega),aB h1]
theorem qH {v:Nat} {fs:List Nat} {x:ei} (h:jZ v x=0) (h1:cX x.op=2):gI v fs x=if fs.length=0∨x.b≠(fs.length:Int)-1∨fs.getD (fs.length-1) 0=0∨x.a≠(fs.getD (fs.length-1) 0:Int)-1 then .error 8 else .ok (fs.getD x.a.toNat 0):=by
 unfold gI;rw[aq (by omega),aq (by omega),aB h1]
theorem S5 {v:Nat} {fs:List Nat} {x:ei} (h:jZ v x=0) (h1:cX x.op≠1) (h2:cX x.op≠2):gI v fs x=.ok fs.length:=by
 unfold gI;rw[aq (by omega),aq h1,aq h2]
theorem qI {vars:Int} {e:List ei} {n:Nat} (h1: ¬(vars<0∨6<vars)) (h2: ¬e.length=0) (h3: ¬64<e.length) (h:j7 vars.toNat e=.error n):gJ vars e=n:=by
 unfold gJ;rw[aq h1,aq h2,aq h3,h]
theorem X8 {vars:Int} {e:List ei} {fs:List Nat} (h1: ¬(vars<0∨6<vars)) (h2: ¬e.length=0) (h3: ¬64<e.length) (h:j7 vars.toNat e=.ok fs):gJ vars e=if fs.getD (e.length-1) 0≠0 then 2 else if lR e e.length (e.length-1) true=true then 0 else 2:=by
 unfold gJ;rw[aq h1,aq h2,aq h3,h]
theorem M2 (w:World) [dQ prog w] (eb:Option Addr) (ec:Nat) (e:List ei) (hE:Sl w eb (bX e)) (qZ:e.length<4611686018427387904) (mh: ∀x∈e,x.p<256∧x.n<256) (vars:Int):
  cB prog 22 [(.slice eb e.length ec),vI vars] w fun r N=>r=vN (gJ vars e)∧N=[]:=by
 refine aA func22 F ntmps22 F ?_
 refine aQ (aS (bq (ay cV ?_)))
 by_cases HM:vars<0
 ·refine ae (bn aw HM) ?_
  refine cK (aX bw ?_)
  refine bW ?_
  refine aQ (aR ?_)
  refine aF (vI 7) results22 F ?_
  exact⟨[],Sub.z,by unfold gJ;rw[aB (show vars<0∨6<vars by omega)];rfl,F⟩
 refine ae (aY aw HM) (ao aw (ao gT (aX bU (aL F (fun hc=>?_) (fun hc=>?_)))))
 ·have CK:vars<0∨6<vars:=by omega
  refine aQ (aR ?_)
  refine aF (vI 7) results22 F ?_
  exact⟨[],Sub.z,by unfold gJ;rw[aB (show vars<0∨6<vars by omega)];rfl,F⟩
 have CK: ¬(vars<0∨6<vars):=by omega
 obtain⟨v,hvv⟩: ∃v:Nat,vars=(v:Int):=⟨vars.toNat,by omega⟩
 have QQ:v≤6:=by omega
 have KE:vars.toNat=v:=by omega
 refine aE (br (bo (cL dX) (aX bN (aL F (fun hc=>?_) (fun hc=>?_)))))
 ·have abM:e.length=0:=by omega
  have xS:e.length=0:=by omega
  refine aQ (aR ?_)
  refine aF (vI 3) results22 F ?_
  exact⟨[],Sub.z,by unfold gJ;rw[aq CK,aB xS];rfl,F⟩
 have abN: ¬e.length=0:=by omega
 have xS: ¬e.length=0:=by omega
 refine aE (br (bo (cL dX) (aX gT (aL F (fun hc=>?_) (fun hc=>?_)))))
 ·have xi:e.length>64:=by omega
  have sf:64<e.length:=by omega
  refine aQ (aR ?_)
  refine aF (vI 4) results22 F ?_
  exact⟨[],Sub.z,by unfold gJ;rw[aq CK,aq xS,aB sf];rfl,F⟩
 have Oa: ¬e.length>64:=by omega
 have sf: ¬64<e.length:=by omega
 refine aE (aQ (aS (bq (aj (aK (T.fJ 3 1 ?_))))))
 let fR:Value:=(.slice eb e.length ec)
 refine ep (fun(i:Nat) ρ O=> ∃(b:Option Addr) (c:Nat) (fs:List Nat),O=[az b c 3 1 (cm fs)]∧i≤e.length∧j7 v (e.take i)=.ok fs∧fs.length=i∧(∀j,j<i→fs.getD j 0≤j)∧dh [(0,fR),(1,vI vars),(5,(.slice b i c)),(6,vN i)] ρ) (fun i=>e.length-i) 0 ?_ ?_
 ·exact⟨none,0,[],F,bj _,F,F,(fun j hj=>absurd hj (by omega)),⟨F,F,F,F,trivial⟩⟩
 rintro i ρ O ⟨b,c,fs,rfl,hi,oF,oG,X9,hH⟩
 obtain⟨gv,rfl⟩:=hH.elim
 clear hH
 refine br (a7 (ay (cL dX) (aX cV (aL F (fun hc=>?_) (fun hc=>?_)))))
 ·have j4:i<e.length:=by omega
  have Qu:=mh _ (av j4)
  refine aE (br (aK (a7 (ay (eF (i:=i) dX cR F F (a6 hE) j4 (by rw[cE];omega)) (ae (fy (e[i].cl) dz F cR F F (bK _) (a6 hE) (lA j4)) (ae (cg aw (v':=vN v) (by show Value.int .i64 vars=_;rw[hvv])) ?_))))))
  let gd:List Lx.Item:=[az b c 3 1 (cm fs)]
  have N4:=fun(w1:World) (hI:Inv w gd w1)=>(haveI:=eP hI;S3 w1 e[i] v Qu.1 Qu.2 (by omega))
  refine TO.lc abr (aO N4) ?_
  clear N4
  rintro vr O' ⟨N,rfl,rfl,rfl⟩
  refine aS (bq (aN (aX d_ (aL F (fun hc=>?_) (fun hc=>?_)))))
  ·have aaH:(jZ v e[i])≠0:=by omega
   have xD:jZ v e[i]≠0:=by omega
   refine a7 (aR ?_)
   refine aF (vN (jZ v e[i])) results22 F ?_
   exact⟨[],Sub.z,by rw[qI CK xS sf (by rw[KE];exact gW j4 oF (S4 xD))],F⟩
  have aaJ: ¬(jZ v e[i])≠0:=by omega
  have F7:jZ v e[i]=0:=by omega
  obtain⟨xK,uw,_⟩:=lM F7
  refine aE (a7 (aj ?_))
  refine fF (fun ρ O=>Sub gd O∧(cX e[i].op=1→0<i∧e[i].a=(i:Int)-1)∧dh [(0,fR),(1,vI vars),(5,(.slice b i c)),(6,vN i),(7,vN (jZ v e[i])),(8,vN (if cX e[i].op=1 then fs.getD (i-1) 0 else i))] ρ) ?_ ?_
  ·refine br ?_
   refine a_ (aN (ay (eF (i:=i) dX cR F F (a6 hE) j4 (by rw[cE];omega)) (ae (cF dz F eN F F (a6 hE) (by rw[cE];omega)) ?_)))
   refine ae (dD il F F hE (gk (ak j4) 0 (by show 0<5;decide))) ?_
   have y6:=fun(w1:World) (hI:Inv w gd w1)=>(haveI:=eP hI;Cm w1 e[i].op xK uw)
   refine TO.lc EP (aO y6) ?_
   clear y6
   rintro vr O' ⟨N,rfl,rfl,rfl⟩
   refine aX bN (aL F (fun hc=>?_) (fun hc=>?_))
   ·have pz:(cX e[i].op)=1:=by omega
    refine br (a7 (ay (eF (i:=i) dX cR F F (a6 hE) j4 (by rw[cE];omega)) (ae (cF dz F bM F F (a6 hE) (by rw[cE];omega)) ?_)))
    refine ae (dD eO F F hE (gk (ak j4) 3 (by show 3<5;decide))) (ay (ga F F (by omega)) (ae d_ ?_))
    by_cases Gf:e[i].a≠((i:Nat):Int)-1
    ·refine ae (bn aw Gf) ?_
     refine cK (aX bw ?_)
     refine bW ?_
     refine aQ (aR ?_)
     refine aF (vI 8) results22 F ?_
     exact⟨[],Sub.z,by rw[qI CK xS sf (by rw[KE];exact gW j4 oF (by first|(rw[qG F7 pz,oG,aB (by omega)])|(rw[qH F7 oX,oG,aB (by omega)])))];rfl,F⟩
    refine ae (aY aw Gf) (ao aw (ao bN (aX bU (aL F (fun hc=>?_) (fun hc=>?_)))))
    ·have ah4:i=0:=by omega
     refine aQ (aR ?_)
     refine aF (vI 8) results22 F ?_
     exact⟨[],Sub.z,by rw[qI CK xS sf (by rw[KE];exact gW j4 oF (by first|(rw[qG F7 pz,oG,aB (by omega)])|(rw[qH F7 oX,oG,aB (by omega)])))];rfl,F⟩
    have ah5: ¬i=0:=by omega
    refine aE (a_ (aN (ay (cg (ga F F (by omega)) (v':=vN (i-1)) (am (Value.int .i64) (by omega))) (ae (dB ((i-1)) da bM F F (eA 0) (by omega) (by rw[ai];omega)) (ae (iN eO F F (eA 0) (show(cm fs)[i-1]? =some (vN (fs.getD (i-1) 0))from iP (by omega))) (aj ?_))))))
    exact⟨(by exact Sub.rf),(fun h=>by omega),⟨F,F,F,F,F,(am (fun n9:Nat=>Value.int .i64 ((n9:Nat):Int)) (by rw[aB pz])),trivial⟩⟩
   have yX: ¬(cX e[i].op)=1:=by omega
   refine aE ?_
   exact⟨(by exact Sub.rf),(fun h=>by omega),⟨F,F,F,F,F,(am (fun n9:Nat=>Value.int .i64 ((n9:Nat):Int)) (by rw[aq yX])),trivial⟩⟩
  rintro ρ O ⟨hS,hF1,hH⟩
  obtain⟨gv,rfl⟩:=hH.elim
  clear hH
  refine dq hS ?_
  refine fF (fun ρ O=>Sub gd O∧(cX e[i].op=2→0<i∧e[i].b=(i:Int)-1∧0<fs.getD (i-1) 0∧e[i].a=(fs.getD (i-1) 0:Int)-1)∧dh [(0,fR),(1,vI vars),(5,(.slice b i c)),(6,vN i),(7,vN (jZ v e[i])),(8,vN (if cX e[i].op=2 then fs.getD (fs.getD (i-1) 0-1) 0 else(if cX e[i].op=1 then fs.getD (i-1) 0 else i)))] ρ) ?_ ?_
  ·refine br ?_
   refine a_ (aN (ay (eF (i:=i) dX cR F F (a6 hE) j4 (by rw[cE];omega)) (ae (cF dz F eN F F (a6 hE) (by rw[cE];omega)) ?_)))
   refine ae (dD il F F hE (gk (ak j4) 0 (by show 0<5;decide))) ?_
   have P6:=fun(w1:World) (hI:Inv w gd w1)=>(haveI:=eP hI;Cm w1 e[i].op xK uw)
   refine TO.lc EP (aO P6) ?_
   clear P6
   rintro vr O' ⟨N,rfl,rfl,rfl⟩
   refine aX bN (aL F (fun hc=>?_) (fun hc=>?_))
   ·have oX:(cX e[i].op)=2:=by omega
    refine br (br ?_)
    refine fW [(0,0),(1,0),(2,0),(3,0),(4,0),(5,0),(6,0),(7,0),(8,0),(9,0),(10,0),(11,0),(12,0),(13,0),(14,0),(15,0),(16,0),(17,0),(18,0),(19,0),(20,0),(21,0),(22,0),(23,0),(24,0),(25,0),(26,0),(27,0),(28,0),(29,0),(30,0),(31,0),(32,0),(33,0)] ?_
    refine ap F aw (ap F aw (ap F (eF (i:=i) dX cR F F (a6 hE) j4 (by rw[cE];omega)) (ap F (cF dz F bM F F (a6 hE) (by rw[cE];omega)) ?_)))
    refine ap F (dD eO F F hE (gk (ak j4) 4 (by show 4<5;decide))) (ap F aw (ap F (ga F F (by omega)) (ap F d_ ?_)))
    by_cases B8:e[i].b≠((i:Nat):Int)-1
    ·refine ap F (bn aw B8) ?_
     refine aU F F F (aU F F F (ap F bw (ap F aw (aU F F F (aU F F F (aU F F F (aU F F F (aU F F F ?_))))))))
     refine aU F F F (ap F bw (ap F aw (aU F F F (aU F F F (aU F F F (aU F F F (aU F F F (aU F F F ?_))))))))
     refine aU F F F (aU F F F (aU F F F (aU F F F (aU F F F (aU F F F (ap F bw ?_))))))
     refine cy ?_
     refine bW ?_
     refine aQ (aR ?_)
     refine aF (vI 8) results22 F ?_
     exact⟨[],Sub.z,by rw[qI CK xS sf (by rw[KE];exact gW j4 oF (by first|(rw[qG F7 pz,oG,aB (by omega)])|(rw[qH F7 oX,oG,aB (by omega)])))];rfl,F⟩
    refine ap F (aY aw B8) ?_
    refine bs F F F aw ?_
    refine bs F F F bN ?_
    refine ap F bU ?_
    by_cases hs3:((i:Nat):Int)=0
    ·refine ap F (bn aw hs3) ?_
     refine aU F F F (aU F F F (aU F F F (aU F F F (aU F F F (aU F F F (ap F bw (ap F aw (aU F F F ?_))))))))
     refine aU F F F (aU F F F (aU F F F (aU F F F (aU F F F (aU F F F (aU F F F (aU F F F ?_)))))))
     refine aU F F F (aU F F F (aU F F F (ap F bw ?_)))
     refine cy ?_
     refine bW ?_
     refine aQ (aR ?_)
     refine aF (vI 8) results22 F ?_
     exact⟨[],Sub.z,by rw[qI CK xS sf (by rw[KE];exact gW j4 oF (by first|(rw[qG F7 pz,oG,aB (by omega)])|(rw[qH F7 oX,oG,aB (by omega)])))];rfl,F⟩
    refine ap F (aY aw hs3) ?_
    refine bs F F F aw ?_
    refine bs F F F aw ?_
    refine bs F F F (cg (ga F F (by omega)) (v':=vN (i-1)) (am (Value.int .i64) (by omega))) ?_
    refine bs F F F (dB ((i-1)) da bM F F (eA 0) (by omega) (by rw[ai];omega)) ?_
    refine bs F F F (iN eO F F (eA 0) (show(cm fs)[i-1]? =some (vN (fs.getD (i-1) 0))from iP (by omega))) ?_
    refine bs F F F bN ?_
    refine ap F bU ?_
    by_cases hs4:((fs.getD (i-1) 0:Nat):Int)=0
    ·refine ap F (bn aw hs4) ?_
     refine aU F F F (aU F F F (aU F F F (aU F F F (aU F F F (aU F F F (aU F F F (aU F F F ?_)))))))
     refine aU F F F (aU F F F (aU F F F (aU F F F (ap F bw ?_))))
     refine cy ?_
     refine bW ?_
     refine aQ (aR ?_)
     refine aF (vI 8) results22 F ?_
     exact⟨[],Sub.z,by rw[qI CK xS sf (by rw[KE];exact gW j4 oF (by first|(rw[qG F7 pz,oG,aB (by omega)])|(rw[qH F7 oX,oG,aB (by omega)])))];rfl,F⟩
    refine ap F (aY aw hs4) ?_
    refine bs F F F aw ?_
    refine bs F F F aw ?_
    refine bs F F F (eF (i:=i) dX cR F F (a6 hE) j4 (by rw[cE];omega)) ?_
    refine bs F F F (cF dz F bM F F (a6 hE) (by rw[cE];omega)) ?_
    refine bs F F F (dD eO F F hE (gk (ak j4) 3 (by show 3<5;decide))) ?_
    refine bs F F F aw ?_
    refine bs F F F aw ?_
    refine bs F F F (cg (ga F F (by omega)) (v':=vN (i-1)) (am (Value.int .i64) (by omega))) ?_
    refine bs F F F (dB ((i-1)) da bM F F (eA 0) (by omega) (by rw[ai];omega)) ?_
    refine bs F F F (iN eO F F (eA 0) (show(cm fs)[i-1]? =some (vN (fs.getD (i-1) 0))from iP (by omega))) ?_
    refine bs F F F (ga F F (by have:=X9 (i-1);omega)) ?_
    refine bs F F F d_ ?_
    refine ap F bU ?_
    refine cy ?_
    refine aL F (fun hc=>?_) (fun hc=>?_)
    ·refine br ?_
     refine a_ (aR ?_)
     refine aF (vI 8) results22 F ?_
     exact⟨[],Sub.z,by rw[qI CK xS sf (by rw[KE];exact gW j4 oF (by first|(rw[qG F7 pz,oG,aB (by omega)])|(rw[qH F7 oX,oG,aB (by omega)])))];rfl,F⟩
    refine aE ?_
    have acw:0<i∧e[i].b=(i:Int)-1∧0<fs.getD (i-1) 0∧e[i].a=(fs.getD (i-1) 0:Int)-1:=by omega
    have akD:=X9 (i-1) (by omega)
    refine a_ (de (ay (cg (ga F F (by omega)) (v':=vN (i-1)) (am (Value.int .i64) (by omega))) (ae (dB ((i-1)) da bM F F (eA 0) (by omega) (by rw[ai];omega)) (ae (iN eO F F (eA 0) (show(cm fs)[i-1]? =some (vN (fs.getD (i-1) 0))from iP (by omega))) (ae (cg (ga F F (by have:=X9 (i-1);omega)) (v':=vN (fs.getD (i-1) 0-1)) (am (Value.int .i64) (by have:=(acw).2.2.1;omega))) (ae (dB ((fs.getD (i-1) 0-1)) da bM F F (eA 0) (by omega) (by rw[ai];omega)) (ae (iN eO F F (eA 0) (show(cm fs)[(fs.getD (i-1) 0-1)]? =some (vN (fs.getD (fs.getD (i-1) 0-1) 0))from iP (by omega))) (aj ?_))))))))
    exact⟨(by exact Sub.rf),(fun h=>acw),⟨F,F,F,F,F,(am (fun n9:Nat=>Value.int .i64 ((n9:Nat):Int)) (by rw[aB oX])),trivial⟩⟩
   have Ix: ¬(cX e[i].op)=2:=by omega
   refine aE ?_
   exact⟨(by exact Sub.rf),(fun h=>absurd h Ix),⟨F,F,F,F,F,(am (fun n9:Nat=>Value.int .i64 ((n9:Nat):Int)) (by rw[aq Ix])),trivial⟩⟩
  rintro ρ O ⟨hS,Lu,hH⟩
  obtain⟨gv,rfl⟩:=hH.elim
  clear hH
  refine dq hS ?_
  refine a_ (de (ax (dL (v:=vN (if cX e[i].op=2 then fs.getD (fs.getD (i-1) 0-1) 0 else(if cX e[i].op=1 then fs.getD (i-1) 0 else i))) da bM F F F (fun z1=>?_))))
  refine ax (dE 1 da da bM F F F F (by rw[ai];omega) (by decide) (Src.row (j:=0) F (by simp)) (by simp[fS]) (by omega) (by decide) (by decide) (fun z2 wm=>?_))
  refine aj (a_ (ay (dj (b:=1) i F F (by omega)) (aj ?_)))
  have Nr:gI v fs e[i]=.ok (if cX e[i].op=2 then fs.getD (fs.getD (i-1) 0-1) 0 else(if cX e[i].op=1 then fs.getD (i-1) 0 else i)):=by
   by_cases k1:cX e[i].op=1
   ·rw[qG F7 k1,oG,aq (by have:=hF1 k1;omega),aq (by omega),aB k1]
   ·by_cases k2:cX e[i].op=2
    ·obtain⟨m1,m2,m3,m4⟩:=Lu k2
     rw[qH F7 k2,oG,aq (by omega),aB k2,m4];congr 2;omega
    ·rw[S5 F7 k1 k2,oG,aq k2,aq k1]
  have R6:(if cX e[i].op=2 then fs.getD (fs.getD (i-1) 0-1) 0 else(if cX e[i].op=1 then fs.getD (i-1) 0 else i))≤i:=by
   split
   ·have:=X9 (i-1);have:=Lu (by assumption);have:=X9 (fs.getD (i-1) 0-1) (by omega);omega
   ·split
    ·have:=hF1 (by assumption);have:=X9 (i-1) (by omega);omega
    ·exact aI _
  exact⟨i+1,by omega,[az z2 wm 3 1 ((cm fs)++[vN (if cX e[i].op=2 then fs.getD (fs.getD (i-1) 0-1) 0 else(if cX e[i].op=1 then fs.getD (i-1) 0 else i))])],(by exact Sub.d (.k .z)),z2,wm,fs++[(if cX e[i].op=2 then fs.getD (fs.getD (i-1) 0-1) 0 else(if cX e[i].op=1 then fs.getD (i-1) 0 else i))],by rw[show cm (fs++[(if cX e[i].op=2 then fs.getD (fs.getD (i-1) 0-1) 0 else(if cX e[i].op=1 then fs.getD (i-1) 0 else i))])=cm fs++[vN (if cX e[i].op=2 then fs.getD (fs.getD (i-1) 0-1) 0 else(if cX e[i].op=1 then fs.getD (i-1) 0 else i))]from bm],by omega,pN j4 oF Nr,by simp[oG],pO oG X9 R6,⟨F,F,F,F,trivial⟩⟩
 have A4: ¬i<e.length:=by omega
 have xF:i=e.length:=by omega
 have W0:j7 vars.toNat e=.ok fs:=by rw[KE];rw[xF,List.take_length]at oF;exact oF
 have hcr:=X8 CK xS sf W0
 refine cD ?_
 refine br (a7 (ay (cL dX) (ae (cg (ga F F (by omega)) (v':=vN (e.length-1)) (am (Value.int .i64) (by omega))) (ae (dB ((e.length-1)) da bM F F (eA 0) (by omega) (by rw[ai];omega)) (ae (iN eO F F (eA 0) (show(cm fs)[e.length-1]? =some (vN (fs.getD (e.length-1) 0))from iP (by omega))) (aX d_ (aL F (fun hc=>?_) (fun hc=>?_))))))))
 ·have afT:fs.getD (e.length-1) 0≠0:=by omega
  refine aQ (aR ?_)
  refine aF (vI 2) results22 F ?_
  exact⟨[],Sub.z,by rw[hcr];first|(rw[aB (by omega)];rfl)|(rw[aq (by omega),aq Qz];rfl),F⟩
 have afU: ¬fs.getD (e.length-1) 0≠0:=by omega
 refine aE (br (a7 (ay (cL dX) (ae (cg (ga F F (by omega)) (v':=vN (e.length-1)) (am (Value.int .i64) (by omega))) ?_))))
 have US:=fun(w1:World) (hI:Inv w [az b c 3 1 (cm fs)] w1)=>(haveI:=eP hI;X7 eb ec e W0 e.length (e.length-1) true w1 (hI.sl hE) (by omega) (by omega))
 refine TO.lc IC (aO US) ?_
 clear US
 rintro vr O' ⟨N,rfl,rfl,rfl⟩
 refine bi (aL (p:= ¬lR e e.length (e.length-1) true=true) (am Value.bool (by cases lR e e.length (e.length-1) true<;>rfl)) (fun hc=>?_) (fun hc=>?_))
 ·have Qz: ¬lR e e.length (e.length-1) true=true:=hc
  refine aQ (aR ?_)
  refine aF (vI 2) results22 F ?_
  exact⟨[],Sub.z,by rw[hcr];first|(rw[aB (by omega)];rfl)|(rw[aq (by omega),aq Qz];rfl),F⟩
 have Qz:lR e e.length (e.length-1) true=true:=Classical.not_not.1 hc
 refine aE (aQ (aR ?_))
 refine aF (vI 0) results22 F ?_
 exact⟨[],Sub.z,by rw[hcr,aq (by omega),aB Qz];rfl,F⟩
theorem VE (w:World) [dQ prog w] (S:List UInt8) (rJ:S.length≤4096) (v i:Nat) (hv:v≤6) (m:List ei) (hR:vK 96 S 0 [] i S.length m) (mh: ∀x∈m,x.p<256∧x.n<256) (h0:gJ (v:Int) m=0):
  cB prog 59 [(str S),vN v] w fun v N=> ∃b c,v=.tuple #[.slice b m.length c,vI 0]∧N=[az b c 72 5 (bX m)]:=by
 refine aA func59 F ntmps59 F ?_
 refine aQ (aS (aS (bq (ay (aY cV (by omega)) (aN (ao aw (ao (aY gT (by omega)) (aX bU ?_))))))))
 refine bf (aE (br (bo (yJ wZ F) (aX (aY gT (by omega)) (bf (aE (bo (dc [(str S),(vI 0),nS,(vI 0)] Rl VF (by kernel_rfl)) (ax (ef [(str S),(vI 0),nS,(vI 0)] (fun z1=>?_))))))))))
 refine aj (br (T.fJ 72 5 ?_))
 refine a_ (aN ?_)
 have oh:=(cx.under (A:=[oI z1 149 [(str S),vN 0,(.slice none (([]:List ei).length) 0),vI 0],az none 0 72 5 (bX [])]) (B:=[]) (O:=[az none 0 72 5 [],oI z1 149 [(str S),(vI 0),nS,(vI 0)]]) (hR w z1 none 0) (by exact Sub.fz [az none 0 72 5 []] _ (.k .z)))
 refine TO.lc D4 oh ?_
 clear oh
 rintro vr O' ⟨A9,rfl,lb,lc,rfl,rfl⟩
 refine bq (ay bg (ae (bu gD jS) (ae (bF 0 pH) (ae (bn bN (by decide)) (aN (ao aw (ao bg (ao (bu gD bM) (ao (bF 0 eO) (ao aw ?_))))))))))
 refine ao (yJ wZ F) (ao (aY cV (by omega)) (aX bw (bf (aE (br (bo bg (ae (bu gD jS) (ae (bF 0 pH) (ae (bn bN (by decide)) ?_)))))))))
 refine bi ?_
 refine bW ?_
 refine a_ (aN (ay bg (ae (bu gD iK) (ae (bF 0 dX) (aN ?_)))))
 have ZE:=fun(w1:World) (hI:Inv w [oI z1 149 [(str S),vN S.length,(.slice lb m.length lc),vI 0],az lb lc 72 5 (bX m)] w1)=>(haveI:=eP hI;(show cB _ _ _ _ _ from by
   have h9:=M2 w1 lb lc m (hI.ij (mG 1)) (by obtain⟨_,_,_,ad5,_⟩:=nG h0;omega) mh (v:Int)
   rw[h0]at h9
   exact h9))
 refine TO.lc M3 (aO ZE) ?_
 clear ZE
 rintro vr O' ⟨N,rfl,rfl,rfl⟩
 refine ae bg (ae (bu gD jS) (ax (c8 [(vI 0)] 0 jS ?_)))
 refine bq (ay bg (ae (bu gD jS) (ae (bF 0 pH) (aX (aY d_ (by decide)) (bf (aE (bo bg (ae (bu gD iK) (ae (bF 0 dX) (aS (aS ?_)))))))))))
 refine dP ?_
 refine dr (.slice lb m.length lc) (vI 0) results59 F F ?_
 exact⟨[az lb lc 72 5 (bX m)],(by exact Sub.d (.k .z)),_,_,F,F⟩
theorem M4 (w:World) [dQ prog w] (S:List UInt8) (rJ:S.length≤4096) (v i:Nat) (hv:v≤6) (m:List ei) (hR:vK 96 S 0 [] i S.length m) (mh: ∀x∈m,x.p<256∧x.n<256) (h0:gJ (v:Int) m=0):
  cB prog 32 [(str S),vN v] w fun v N=> ∃b c,v=.slice b m.length c∧N=[az b c 72 5 (bX m)]:=by
 refine aA func32 F ntmps32 F ?_
 refine aQ (aj (a7 (aN ?_)))
 have rL:=fun(w1:World) (hI:Inv w [] w1)=>(haveI:=eP hI;VE w1 S rJ v i hv m hR mh h0)
 refine TO.lc ZF (aO rL) ?_
 clear rL
 rintro vr O' ⟨N,rfl,b,c,rfl,rfl⟩
 refine ay (bI _) (ae (bI _) (aS (aj (a7 (aR ?_)))))
 refine aF (.slice b m.length c) results32 F ?_
 exact⟨[az b c 72 5 (bX m)],(by exact Sub.rf),_,_,F,F⟩
end Go.Proofs.YtgdbfideeeegmaaGreatDoor


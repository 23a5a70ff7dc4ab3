/- Contracts of functions of the program, and what they answer. Conditions: those each theorem names. -/
import Derived.Test.YtgdbfideeeegmaaGreatDoorA2
import Derived.Test.YtgdbfideeeegmaaGreatDoorA4
import Derived.Test.YtgdbfideeeegmaaGreatDoorA5
import Derived.Test.YtgdbfideeeegmaaGreatDoorA6
import Derived.Test.YtgdbfideeeegmaaGreatDoorA0
set_option linter.unusedSectionVars false
set_option linter.unusedSimpArgs false
set_option linter.unusedVariables false
set_option linter.unnecessarySimpa false
set_option maxHeartbeats 8000000
set_option maxRecDepth 20000
namespace Go.Proofs.YtgdbfideeeegmaaGreatDoor
open Go.Lx Go.RowKit _root_.Go.Proofs.Tryz
theorem zY:Fs Tryz.prog 234 {name:= "s",type:=3,offset:=0,embedded:=false,tag:= "",pkgPath:= "sentinel/boolean",byteOffset:=0} {name:= "t",type:=3,offset:=1,embedded:=false,tag:= "",pkgPath:= "sentinel/boolean",byteOffset:=8}:=⟨nq,dS,dS,F,F,by decide,by decide,by kernel_rfl⟩
theorem LX (w:World) [dB Tryz.prog w] (a b:cM) (j k:DK) (ha:At w a j) (hb:At w b k) (GI:a.next.length<9223372036854775807) (uQ: ∀r∈a.next,r.length<9223372036854775807) (uR:a.aV.length<9223372036854775807) (SK:b.next.length<9223372036854775807) (LY: ∀r∈b.next,r.length<9223372036854775807) (LZ:b.aV.length<9223372036854775807) (he:gQ a b≠0):
  cA Tryz.prog 190 [dV a j,dV b k] w fun v N=>v=.tuple #[.pointer none,vI (gQ a b:Int)]∧N=[]:=by
 refine aG func190 F ntmps190 F ?_
 refine ai (ao F (dE (cs:=(dC a j)) F F (fun nP=>?_)))
 refine ao F (dE (cs:=(dC b k)) F F (fun xy=>?_))
 refine aj F (aj F (ae (aO (ai (ad (ew 1 cS F bK F F F) (ao F (bm vp (aX fun w1 hI=>(haveI:=ey hI;iY w1 a j.nb j.fb j.nc j.fc (dl j.qs) (hI.BF ha) GI uQ uR)) F ?_)))))))
 rintro vr O' ⟨N,rfl,rfl,rfl⟩
 refine aj F (ae (ai (ah F (ad (dP F F) (ae (aP F (fun hc=>?_) (fun hc=>?_)))))))
 ·have Ci:cX a≠0:=by omega
  refine ai (ah F (aj F (aj F (ae (aN (az ?_))))))
  refine dc (.pointer none) (vI (cX a:Int)) Tryz.results190 F F ?_
  exact⟨[],Sub.z,by rw[Br (by omega)],F⟩
 have PM: ¬cX a≠0:=by omega
 refine aE (aO (ai (ad (ew 0 cS F bK F F F) (ao F (bm vp (aX fun w1 hI=>(haveI:=ey hI;iY w1 b k.nb k.fb k.nc k.fc (dl k.qs) (hI.BF hb) SK LY LZ)) F ?_)))))
 rintro vr O' ⟨N,rfl,rfl,rfl⟩
 refine aj F (ae (ai (ah F (ad (dP F F) (ae (aP F (fun hc=>?_) (fun hc=>?_)))))))
 ·have W_:cX b≠0:=by omega
  refine ai (ah F (aj F (aj F (ae (aN (az ?_))))))
  refine dc (.pointer none) (vI (cX b:Int)) Tryz.results190 F F ?_
  exact⟨[],Sub.z,by rw[Ab (by omega) (by omega)],F⟩
 have Xa: ¬cX b≠0:=by omega
 refine aE (aO (ai (ad (bj cS F bl F F) (ad (bn 1 dS F F F F) (ad (bj cS F bl F F) (ad (bn 0 dS F F F F) (ad (dP F F) (ae (aP (p:= ¬a.vars=b.vars) (ax Value.bool (decide_eq_decide.2 (by omega))) (fun hc=>?_) (fun hc=>?_))))))))))
 ·refine aO ?_
  refine be (aj F (aj F (ae (aN (az ?_)))))
  refine dc (.pointer none) (vI 7) Tryz.results190 F F ?_
  exact⟨[],Sub.z,by rw[DL (by omega) (by omega) hc];rfl,F⟩
 refine absurd (pW.2 ⟨dO.1 (by omega),dO.1 (by omega),Classical.not_not.1 hc⟩) he
theorem GJ (w:World) [dB Tryz.prog w] (a b:cM) (j k:DK) (ha:At w a j) (hb:At w b k) (va:Valid a) (vb:Valid b) (hv:a.vars=b.vars):
  cA Tryz.prog 190 [dV a j,dV b k] w fun v N=> ∃(bp qb m:Nat),v=.tuple #[.pointer (aD bp),vI 0]∧N=[oI bp 238 [(vI a.vars),(vI a.start),(.slice j.nb a.next.length j.nc),(.slice j.fb a.aV.length j.fc),(vI b.vars),(vI b.start),(.slice k.nb b.next.length k.nc),(.slice k.fb b.aV.length k.fc),(.slice (aD qb) ([a.start.toNat*b.next.length+b.start.toNat].length) 1),(.map (some m))],aq (aD qb) 1 234 2 (lw b.next.length [a.start.toNat*b.next.length+b.start.toNat]),dz eH (fun n:Nat=>Value.int .i64 (n:Int)) m (pmap b.next.length [a.start.toNat*b.next.length+b.start.toNat])]:=by
 refine aG func190 F ntmps190 F ?_
 have wa:cX a=0:=dO.2 va
 have wb:cX b=0:=dO.2 vb
 have Pb:a.start=((a.start.toNat:Nat):Int):=by have:=va.s0;omega
 have Dx:b.start=((b.start.toNat:Nat):Int):=by have:=vb.s0;omega
 have Nd:=Aa (s:=a.start.toNat) (ez vb.toVal)
 refine ai (ao F (dE (cs:=(dC a j)) F F (fun nP=>?_)))
 refine ao F (dE (cs:=(dC b k)) F F (fun xy=>?_))
 refine aj F (aj F (ae (aO (ai (ad (ew 1 cS F bK F F F) (ao F (bm vp (aX fun w1 hI=>(haveI:=ey hI;iY w1 a j.nb j.fb j.nc j.fc (dl j.qs) (hI.BF ha) (by have:=va.n4;omega) va.wM (by have:=va.fin;have:=va.n4;omega))) F ?_)))))))
 rintro vr O' ⟨N,rfl,rfl,rfl⟩
 rw[wa]
 refine aj F (ae (ai (ah F (ad (dP F F) (ae (a_ F (aE (aO (ai (ad (ew 0 cS F bK F F F) (ao F (bm vp (aX fun w1 hI=>(haveI:=ey hI;iY w1 b k.nb k.fb k.nc k.fc (dl k.qs) (hI.BF hb) (by have:=vb.n4;omega) vb.wM (by have:=vb.fin;have:=vb.n4;omega))) F ?_))))))))))))
 rintro vr O' ⟨N,rfl,rfl,rfl⟩
 rw[wb]
 refine aj F (ae (ai (ah F (ad (dP F F) (ae (a_ F (aE (aO (ai (ad (bj cS F bl F F) (ad (bn 1 dS F F F F) (ad (bj cS F bl F F) (ad (bn 0 dS F F F F) (ad (dP F F) ?_))))))))))))))
 refine ae (a_ (ax Value.bool (ak (fun h=>h hv))) (aE (ai (ad (bj cS F bl F F) (ad (bn 1 dS F F F F) (ad (bj cS F bl F F) (ad (bn 0 dS F F F F) (ad (cF (cs:=[(vI a.start),(vI b.start)]) F5 gY (by kernel_rfl)) (ao F (bu gY F (fun Kr=>?_)))))))))))
 refine ao F (bV (vs:=[(vI a.start),(vI b.start)]) 0 gY F F F F ?_)
 refine ae ?_
 let eJ:Value:=(.slice j.fb a.aV.length j.fc)
 let gr:Value:=(.slice k.fb b.aV.length k.fc)
 let gd:Value:=(.slice j.nb a.next.length j.nc)
 let gG:Value:=(.slice k.nb b.next.length k.nc)
 refine gh (fun ρ O=> ∃(bp qb m:Nat),O=[oI bp 238 [(vI a.vars),(vI a.start),gd,eJ,(vI b.vars),(vI b.start),gG,gr,(.slice (aD qb) 1 1),(.map (some m))],aq (aD qb) 1 234 2 [(vI a.start),(vI b.start)],dz eH (fun n:Nat=>Value.int .i64 (n:Int)) m [((a.start,b.start),(0:Nat))]]∧dt [(0,(dV a j)),(1,(dV b k)),(2,(.pointer (aD nP))),(3,(.pointer (aD xy))),(4,(.pointer (aD bp))),(5,vI 0),(6,vN 0),(7,vN 0),(8,(.pointer (aD Kr)))] ρ) ?_ ?_
 ·refine n5 [oI Kr 234 [(vI a.start),(vI b.start)],oI xy 25 (dC b k),oI nP 25 (dC a j)] 12 mixed F (by exact Sub.rf) (fun _ _ _ _ h=>h) ?_
  refine cB 0 F (by kernel_rfl) (ew 2 cS F bK F F F) ?_
  refine cB 1 F (by kernel_rfl) (ew 1 cS F bK F F F) ?_
  refine cB 2 F (by kernel_rfl) (ew 0 nq F gY F F F) ?_
  refine cB 5 F (by kernel_rfl) (ew 0 nq F gY F F F) ?_
  refine bg [3,4] (by kernel_rfl) F ⟨⟨_,F,F,cH (m:=1) (parts:=[(0,_)]) (cs:=[(vI a.start),(vI b.start)]) l9 gY (by decide) (by kernel_rfl) F (fun qb=>⟨by exact Sub.d (.k (.k (.k .z))),?_⟩)⟩,⟨_,F,F,lz eH (fun n:Nat=>Value.int .i64 (n:Int)) (fun m=>⟨by exact Sub.d (.k (.k (.k .z))),?_⟩)⟩,trivial⟩
  ·refine bg [4] (by kernel_rfl) F ⟨⟨_,F,F,lz eH (fun n:Nat=>Value.int .i64 (n:Int)) (fun m=>⟨by exact Sub.d (.d (.k (.k (.k .z)))),?_⟩)⟩,trivial⟩
   refine bg [6] (by kernel_rfl) F ⟨⟨_,F,F,fT (a:=(a.start,b.start)) (v:=(0:Nat)) 0 tQ (jN zY) F F F F (by simp) ⟨by exact Sub.d (.d (.k (.k (.k .z)))),?_⟩⟩,trivial⟩
   refine cB 7 F (by kernel_rfl) (aK F) ?_
   refine cB 8 F (by kernel_rfl) (cF (cs:=[(vI a.vars),(vI a.start),gd,eJ,(vI b.vars),(vI b.start),gG,gr,(.slice (aD qb) 1 1),(.map (some m))]) AT EP (by kernel_rfl)) ?_
   refine bg [9] (by kernel_rfl) F ⟨⟨_,F,F,dE (cs:=[(vI a.vars),(vI a.start),gd,eJ,(vI b.vars),(vI b.start),gG,gr,(.slice (aD qb) 1 1),(.map (some m))]) F F (fun bp=>⟨by exact Sub.d (.d (.d (.k (.k (.k .z))))),?_⟩)⟩,trivial⟩
   refine cB 10 F (by kernel_rfl) (cq F) ?_
   refine cB 11 F (by kernel_rfl) (cq F) ?_
   exact dw (by kernel_rfl) ⟨bp,qb,m,F,(.of F)⟩ (by exact Sub.k (.eQ [dz eH (fun n:Nat=>Value.int .i64 (n:Int)) m [((a.start,b.start),(0:Nat))]] _ (.k .z)))
  refine bg [3,6] (by kernel_rfl) F ⟨⟨_,F,F,cH (m:=1) (parts:=[(0,_)]) (cs:=[(vI a.start),(vI b.start)]) l9 gY (by decide) (by kernel_rfl) F (fun qb=>⟨by exact Sub.d (.d (.k (.k (.k .z)))),?_⟩)⟩,⟨_,F,F,fT (a:=(a.start,b.start)) (v:=(0:Nat)) 0 tQ (jN zY) F F F F (by simp) ⟨by exact Sub.d (.k (.k (.k .z))),?_⟩⟩,trivial⟩
  ·refine bg [6] (by kernel_rfl) F ⟨⟨_,F,F,fT (a:=(a.start,b.start)) (v:=(0:Nat)) 1 tQ (jN zY) F F F F (by simp) ⟨by exact Sub.d (.d (.k (.k (.k .z)))),?_⟩⟩,trivial⟩
   refine cB 7 F (by kernel_rfl) (aK F) ?_
   refine cB 8 F (by kernel_rfl) (cF (cs:=[(vI a.vars),(vI a.start),gd,eJ,(vI b.vars),(vI b.start),gG,gr,(.slice (aD qb) 1 1),(.map (some m))]) AT EP (by kernel_rfl)) ?_
   refine bg [9] (by kernel_rfl) F ⟨⟨_,F,F,dE (cs:=[(vI a.vars),(vI a.start),gd,eJ,(vI b.vars),(vI b.start),gG,gr,(.slice (aD qb) 1 1),(.map (some m))]) F F (fun bp=>⟨by exact Sub.d (.d (.d (.k (.k (.k .z))))),?_⟩)⟩,trivial⟩
   refine cB 10 F (by kernel_rfl) (cq F) ?_
   refine cB 11 F (by kernel_rfl) (cq F) ?_
   exact dw (by kernel_rfl) ⟨bp,qb,m,F,(.of F)⟩ (by exact Sub.k (.k (.k .z)))
  refine cB 7 F (by kernel_rfl) (aK F) ?_
  refine bg [3] (by kernel_rfl) F ⟨⟨_,F,F,cH (m:=1) (parts:=[(0,_)]) (cs:=[(vI a.start),(vI b.start)]) l9 gY (by decide) (by kernel_rfl) F (fun qb=>⟨by exact Sub.d (.d (.k (.k (.k .z)))),?_⟩)⟩,trivial⟩
  refine cB 8 F (by kernel_rfl) (cF (cs:=[(vI a.vars),(vI a.start),gd,eJ,(vI b.vars),(vI b.start),gG,gr,(.slice (aD qb) 1 1),(.map (some m))]) AT EP (by kernel_rfl)) ?_
  refine bg [9] (by kernel_rfl) F ⟨⟨_,F,F,dE (cs:=[(vI a.vars),(vI a.start),gd,eJ,(vI b.vars),(vI b.start),gG,gr,(.slice (aD qb) 1 1),(.map (some m))]) F F (fun bp=>⟨by exact Sub.d (.d (.d (.k (.k (.k .z))))),?_⟩)⟩,trivial⟩
  refine cB 10 F (by kernel_rfl) (cq F) ?_
  refine cB 11 F (by kernel_rfl) (cq F) ?_
  exact dw (by kernel_rfl) ⟨bp,qb,m,F,(.of F)⟩ (by exact Sub.k (.k (.k .z)))
 rintro ρ O ⟨bp,qb,m,rfl,hH⟩
 obtain⟨gP,rfl⟩:=hH.elim
 clear hH
 refine aN (az ?_)
 refine dc (.pointer (aD bp)) (vI 0) Tryz.results190 F F ?_
 have e1:lw b.next.length [a.start.toNat*b.next.length+b.start.toNat]=[vI a.start,vI b.start]:=by
  simp only[lw,List.flatMap_cons,List.flatMap_nil,cT,O7,Nd.1,Nd.2,←Pb,←Dx]
 have e2:pmap b.next.length [a.start.toNat*b.next.length+b.start.toNat]=[((a.start,b.start),0)]:=by
  show[(un _ _,0)]=_
  simp only[un,Nd.1,Nd.2,←Pb,←Dx]
 exact⟨[oI bp 238 [(vI a.vars),(vI a.start),gd,eJ,(vI b.vars),(vI b.start),gG,gr,(.slice (aD qb) 1 1),(.map (some m))],aq (aD qb) 1 234 2 [(vI a.start),(vI b.start)],dz eH (fun n:Nat=>Value.int .i64 (n:Int)) m [((a.start,b.start),(0:Nat))]],(by exact Sub.rf),bp,qb,m,F,by rw[e1,e2];rfl⟩
theorem L0 (w:World) [dB Tryz.prog w] (bp:Nat):cA Tryz.prog 191 [.pointer (aD bp)] w fun v N=> ∃b,v=.func (.func 218) #[] #[.pointer (aD b)]∧N=[oI b 227 [(.pointer (aD bp))]]:=by
 refine aG func191 F ntmps191 F ?_
 refine ai (ao F (dE (cs:=[(.pointer (aD bp))]) F F (fun nP=>?_)))
 refine aj F (ae (ai (ad (e8) (aj F (ae (aN ?_))))))
 refine aT (.func (.func 218) #[] #[(.pointer (aD nP))]) Tryz.results191 F ?_
 exact⟨nP,F,F⟩
theorem Xt (base:World) [dB Tryz.prog base] (a b:cM) (j k:DK) (bp m:Nat) (ks:List Nat) (c:Nat) (qb:Option Addr) (qc:Nat) (hk:c∈ks) (hl:ks.length≤17000000):
  cd Tryz.prog base 219 [.pointer (aD bp),(.agg #[vN (c/b.next.length),vN (c%b.next.length)])] [oI bp 238 [(vI a.vars),(vI a.start),(.slice j.nb a.next.length j.nc),(.slice j.fb a.aV.length j.fc),(vI b.vars),(vI b.start),(.slice k.nb b.next.length k.nc),(.slice k.fb b.aV.length k.fc),(.slice qb ks.length qc),(.map (some m))],aq qb qc 234 2 (lw b.next.length ks),dz eH (fun n:Nat=>Value.int .i64 (n:Int)) m (pmap b.next.length ks)] (fun v O'=>v=vN (ix c (add ks c))∧ ∃L1 L2,O'=[oI bp 238 [(vI a.vars),(vI a.start),(.slice j.nb a.next.length j.nc),(.slice j.fb a.aV.length j.fc),(vI b.vars),(vI b.start),(.slice k.nb b.next.length k.nc),(.slice k.fb b.aV.length k.fc),(.slice L1 ((add ks c).length) L2),(.map (some m))],aq L1 L2 234 2 (lw b.next.length (add ks c)),dz eH (fun n:Nat=>Value.int .i64 (n:Int)) m (pmap b.next.length (add ks c))]):=by
 refine aG func219 F ntmps219 F ?_
 refine ai (ao F (dE (cs:=[vN (c/b.next.length),vN (c%b.next.length)]) F F (fun nP=>?_)))
 refine aj F (ae (aO ?_))
 let k8:Lx.Item:=oI bp 238 [(vI a.vars),(vI a.start),(.slice j.nb a.next.length j.nc),(.slice j.fb a.aV.length j.fc),(vI b.vars),(vI b.start),(.slice k.nb b.next.length k.nc),(.slice k.fb b.aV.length k.fc),(.slice qb ks.length qc),(.map (some m))]
 refine T.ds [oI nP 234 [vN (c/b.next.length),vN (c%b.next.length)],k8,aq qb qc 234 2 (lw b.next.length ks),dz eH (fun n:Nat=>Value.int .i64 (n:Int)) m (pmap b.next.length ks)] [(0,0),(1,0),(2,0),(3,0),(4,0),(5,0),(6,0),(7,0),(8,0),(9,0),(10,0)] (by exact Sub.rf) ?_
 refine au F (aK F) (au F (bf F) (au F (bj oK F AS F F) (au F (bn 1 tQ F F F F) (au F (ew 0 nq F gY F F F) (au F (bT (jD (a:=un b.next.length c) tQ bl (jN zY) F F (mG 3 F)) (v':=(.tuple #[vN (ix c ks),.bool true])) (by rw[kR];simp only[DM,hk,if_true,if_false,IN,Nat.zero_add];rfl)) (au F (aK F) (au F (bG (vs:=_) F F) (au F (bG (vs:=_) F F) (au F (cq F) (au F (cq F) ?_))))))))))
 refine cy ?_
 refine aO (ai (ah F (ad (i_ F) (ae (a_ F (aE (ai (ah F (aj F (ae (aN (az ?_))))))))))))
 refine aT (vN (ix c ks)) Tryz.results219 F ?_
 have ha:add ks c=ks:=aR hk
 rw[ha]
 exact⟨[k8,aq qb qc 234 2 (lw b.next.length ks),dz eH (fun n:Nat=>Value.int .i64 (n:Int)) m (pmap b.next.length ks)],(by exact Sub.d (.k (.k (.k .z)))),F,qb,qc,F⟩
theorem Xu (base:World) [dB Tryz.prog base] (a b:cM) (j k:DK) (bp m:Nat) (ks:List Nat) (c:Nat) (qb:Option Addr) (qc:Nat) (hk:c∉ks) (hl:ks.length≤17000000):
  cd Tryz.prog base 219 [.pointer (aD bp),(.agg #[vN (c/b.next.length),vN (c%b.next.length)])] [oI bp 238 [(vI a.vars),(vI a.start),(.slice j.nb a.next.length j.nc),(.slice j.fb a.aV.length j.fc),(vI b.vars),(vI b.start),(.slice k.nb b.next.length k.nc),(.slice k.fb b.aV.length k.fc),(.slice qb ks.length qc),(.map (some m))],aq qb qc 234 2 (lw b.next.length ks),dz eH (fun n:Nat=>Value.int .i64 (n:Int)) m (pmap b.next.length ks)] (fun v O'=>v=vN (ix c (add ks c))∧ ∃L1 L2,O'=[oI bp 238 [(vI a.vars),(vI a.start),(.slice j.nb a.next.length j.nc),(.slice j.fb a.aV.length j.fc),(vI b.vars),(vI b.start),(.slice k.nb b.next.length k.nc),(.slice k.fb b.aV.length k.fc),(.slice L1 ((add ks c).length) L2),(.map (some m))],aq L1 L2 234 2 (lw b.next.length (add ks c)),dz eH (fun n:Nat=>Value.int .i64 (n:Int)) m (pmap b.next.length (add ks c))]):=by
 refine aG func219 F ntmps219 F ?_
 refine ai (ao F (dE (cs:=[vN (c/b.next.length),vN (c%b.next.length)]) F F (fun nP=>?_)))
 refine aj F (ae (aO ?_))
 refine T.ds [oI nP 234 [vN (c/b.next.length),vN (c%b.next.length)],oI bp 238 [(vI a.vars),(vI a.start),(.slice j.nb a.next.length j.nc),(.slice j.fb a.aV.length j.fc),(vI b.vars),(vI b.start),(.slice k.nb b.next.length k.nc),(.slice k.fb b.aV.length k.fc),(.slice qb ks.length qc),(.map (some m))],aq qb qc 234 2 (lw b.next.length ks),dz eH (fun n:Nat=>Value.int .i64 (n:Int)) m (pmap b.next.length ks)] [(0,0),(1,0),(2,0),(3,0),(4,0),(5,0),(6,0),(7,0),(8,0),(9,0),(10,0)] (by exact Sub.rf) ?_
 refine au F (aK F) (au F (bf F) (au F (bj oK F AS F F) (au F (bn 1 tQ F F F F) (au F (ew 0 nq F gY F F F) (au F (bT (jD (a:=un b.next.length c) tQ bl (jN zY) F F (mG 3 F)) (v':=(.tuple #[vI 0,.bool false])) (by rw[kR];simp only[DM,hk,if_true,if_false,IN,Nat.zero_add];rfl)) (au F (aK F) (au F (bG (vs:=_) F F) (au F (bG (vs:=_) F F) (au F (cq F) (au F (cq F) ?_))))))))))
 refine cy ?_
 refine aO (ai (ah F (ad (i_ F) (ae ?_))))
 refine bW F ?_
 refine ai (ah F (ad (bf F) (ad (bj oK F pm F F) (ad (bn 1 l9 F F F F) (ad (cP l9 F) (aj F (ae (aO ?_))))))))
 refine T.ds [oI nP 234 [vN (c/b.next.length),vN (c%b.next.length)],oI bp 238 [(vI a.vars),(vI a.start),(.slice j.nb a.next.length j.nc),(.slice j.fb a.aV.length j.fc),(vI b.vars),(vI b.start),(.slice k.nb b.next.length k.nc),(.slice k.fb b.aV.length k.fc),(.slice qb ks.length qc),(.map (some m))],aq qb qc 234 2 (lw b.next.length ks),dz eH (fun n:Nat=>Value.int .i64 (n:Int)) m (pmap b.next.length ks)] [(0,0),(1,0),(2,0),(3,0),(4,0),(5,0),(6,2)] (by exact Sub.rf) ?_
 refine au F (aK F) (au F (bf F) (au F (bj oK F AS F F) (au F (bn 1 tQ F F F F) (au F (ew 0 nq F gY F F F) (au F (aK F) ?_)))))
 refine cu F F (qf (a:=un b.next.length c) (v:=ks.length) 3 tQ (jN zY) F F F F (by rw[IP,DM];exact hk) ?_)
 refine cy ?_
 refine T.ds [oI nP 234 [vN (c/b.next.length),vN (c%b.next.length)],oI bp 238 [(vI a.vars),(vI a.start),(.slice j.nb a.next.length j.nc),(.slice j.fb a.aV.length j.fc),(vI b.vars),(vI b.start),(.slice k.nb b.next.length k.nc),(.slice k.fb b.aV.length k.fc),(.slice qb ks.length qc),(.map (some m))],dz eH (fun n:Nat=>Value.int .i64 (n:Int)) m ((pmap b.next.length ks)++[(un b.next.length c,ks.length)])] [(0,0),(1,0),(2,0),(3,0),(4,0),(5,0),(6,1),(7,1),(8,0),(9,0),(10,2)] (by exact Sub.k (.k (.d (.k .z)))) ?_
 refine au F (aK F) (au F (aK F) (au F (bf F) (au F (bj oK F pm F F) (au F (bn 1 l9 F F F F) (au F (ew 0 nq F gY F F F) ?_)))))
 refine cx F F (cH (m:=1) (parts:=[(0,_)]) (cs:=[vN (c/b.next.length),vN (c%b.next.length)]) l9 gY (by decide) (by kernel_rfl) F (fun xy=>⟨by exact Sub.d (.k (.k (.d (.k .z)))),?_⟩))
 refine cx F F (dh 3 l9 l9 gY F F F F (by rw[Ac]) (by decide) (Src.row (j:=0) F (by simp)) (by simp[fu]) (by omega) (by decide) (by decide) (fun Kr c4=>⟨by exact Sub.d (.k (.k (.d (.k .z)))),?_⟩))
 refine au F (bf F) (au F (bj oK F pm F F) ?_)
 refine cu F F (bV (vs:=[(.slice Kr (ks.length+1) c4)]) 2 pm F F F F ?_)
 refine cy ?_
 refine ai (ah F (aj F (ae (aN (az ?_)))))
 refine aT (vI (ks.length:Int)) Tryz.results219 F ?_
 have ha:add ks c=ks++[c]:=ay hk
 rw[ha]
 exact⟨[oI bp 238 [(vI a.vars),(vI a.start),(.slice j.nb a.next.length j.nc),(.slice j.fb a.aV.length j.fc),(vI b.vars),(vI b.start),(.slice k.nb b.next.length k.nc),(.slice k.fb b.aV.length k.fc),(.slice Kr (ks.length+1) c4),(.map (some m))],aq Kr c4 234 2 ((lw b.next.length ks)++[vN (c/b.next.length),vN (c%b.next.length)]),dz eH (fun n:Nat=>Value.int .i64 (n:Int)) m ((pmap b.next.length ks)++[(un b.next.length c,ks.length)])],(by exact Sub.d (.d (.k (.k (.k .z))))),by rw[fM hk];simp[ix],_,_,by rw[IM,G3,aF];rfl⟩
theorem pvC (base:World) [dB Tryz.prog base] (a b:cM) (j k:DK) (bp m:Nat) (ks:List Nat) (c:Nat) (qb:Option Addr) (qc:Nat) (hl:ks.length≤17000000):
  cd Tryz.prog base 219 [.pointer (aD bp),(.agg #[vN (c/b.next.length),vN (c%b.next.length)])] [dR bp (.cells (List.toArray [(vI a.vars),(vI a.start),(.slice j.nb a.next.length j.nc),(.slice j.fb a.aV.length j.fc),(vI b.vars),(vI b.start),(.slice k.nb b.next.length k.nc),(.slice k.fb b.aV.length k.fc),(.slice qb ks.length qc),(.map (some m))]) 238 (0,0)),aq qb qc 234 2 (lw b.next.length ks),dz eH (fun n:Nat=>Value.int .i64 (n:Int)) m (pmap b.next.length ks)] (fun v O'=>v=vN (ix c (add ks c))∧ ∃L1 L2,O'=[dR bp (.cells (List.toArray [(vI a.vars),(vI a.start),(.slice j.nb a.next.length j.nc),(.slice j.fb a.aV.length j.fc),(vI b.vars),(vI b.start),(.slice k.nb b.next.length k.nc),(.slice k.fb b.aV.length k.fc),(.slice L1 ((add ks c).length) L2),(.map (some m))]) 238 (0,0)),aq L1 L2 234 2 (lw b.next.length (add ks c)),dz eH (fun n:Nat=>Value.int .i64 (n:Int)) m (pmap b.next.length (add ks c))]):=by
 by_cases hk:c∈ks
 ·exact Xt base a b j k bp m ks c qb qc hk hl
 ·exact Xu base a b j k bp m ks c qb qc hk hl
end Go.Proofs.YtgdbfideeeegmaaGreatDoor

namespace Go.Proofs.YtgdbfideeeegmaaGreatDoor
open Go.Lx Go.RowKit _root_.Go.Proofs.Tryz
theorem pvS (base:World) [dB Tryz.prog base] (f:Bool→Bool→Bool) (a b:cM) (j k:DK) (bp m i o x:Nat) (qb:Option Addr) (qc:Nat) (va:Valid a) (vb:Valid b) (hv:a.vars=b.vars) (hq:(da (bJ f a b) i)[i]? =some o) (hx:x<2^a.vars.toNat):
  cd Tryz.prog base 219 [.pointer (aD bp),(.agg #[vN ((e7 (bJ f a b) o x)/b.next.length),vN ((e7 (bJ f a b) o x)%b.next.length)])] [dR bp (.cells (List.toArray [(vI a.vars),(vI a.start),(.slice j.nb a.next.length j.nc),(.slice j.fb a.aV.length j.fc),(vI b.vars),(vI b.start),(.slice k.nb b.next.length k.nc),(.slice k.fb b.aV.length k.fc),(.slice qb ((kI (bJ f a b) i o x).length) qc),(.map (some m))]) 238 (0,0)),aq qb qc 234 2 (lw b.next.length (kI (bJ f a b) i o x)),dz eH (fun n:Nat=>Value.int .i64 (n:Int)) m (pmap b.next.length (kI (bJ f a b) i o x))] (fun v O'=>v=vN (ix (e7 (bJ f a b) o x) (order (bJ f a b)))∧ ∃L1 L2,O'=[dR bp (.cells (List.toArray [(vI a.vars),(vI a.start),(.slice j.nb a.next.length j.nc),(.slice j.fb a.aV.length j.fc),(vI b.vars),(vI b.start),(.slice k.nb b.next.length k.nc),(.slice k.fb b.aV.length k.fc),(.slice L1 ((kI (bJ f a b) i o (x+1)).length) L2),(.map (some m))]) 238 (0,0)),aq L1 L2 234 2 (lw b.next.length (kI (bJ f a b) i o (x+1))),dz eH (fun n:Nat=>Value.int .i64 (n:Int)) m (pmap b.next.length (kI (bJ f a b) i o (x+1)))]):=by
 have ho:=(kq (f:=f) va vb hv i).2 o (bS hq)
 have Yf:=(List.getElem?_eq_some_iff.1 hq).1
 have SH:=ke (f:=f) va vb hv i
 have hml:=Bp (f:=f) va vb hv (i:=i) ho (Nat.le_of_lt hx)
 have h4:a.next.length*b.next.length≤4096*4096:=Nat.mul_le_mul va.n4 vb.n4
 rw[uP]
 refine(pvC base a b j k bp m (kI (bJ f a b) i o x) (e7 (bJ f a b) o x) qb qc (by omega)).mono ?_
 rintro v O' ⟨rfl,h⟩
 refine⟨?_,h⟩
 rw[←uP,G2 hq (x:=x+1) hx (by rw[jl];omega) (by rw[uP];exact rp.2 (.inr F))]
theorem L3 (base:World) [dB Tryz.prog base] (f:Bool→Bool→Bool) (a b:cM) (j k:DK) (ha:At base a j) (hb:At base b k) (va:Valid a) (vb:Valid b) (hv:a.vars=b.vars) (L:Nat) (hL:2^a.vars.toNat=L) (bx bp m:Nat) (qb0:Option Addr) (qc0:Nat) (yv:Value) (J:Nat→List Lx.Item→Prop) (Q:List Lx.Item→Prop)
  (hy: ∀(i o:Nat) (qb:Option Addr) (qc rb:Nat) (O:List Lx.Item),(da (bJ f a b) i)[i]? =some o→J i O→eK Tryz.prog base yv [(.agg #[vN (o/b.next.length),vN (o%b.next.length)]),.slice (aD rb) L L] (O++[oI bp 238 [(vI a.vars),(vI a.start),(.slice j.nb a.next.length j.nc),(.slice j.fb a.aV.length j.fc),(vI b.vars),(vI b.start),(.slice k.nb b.next.length k.nc),(.slice k.fb b.aV.length k.fc),(.slice qb ((da (bJ f a b) (i+1)).length) qc),(.map (some m))],aq qb qc 234 2 (lw b.next.length (da (bJ f a b) (i+1))),dz eH (fun n:Nat=>Value.int .i64 (n:Int)) m (pmap b.next.length (da (bJ f a b) (i+1))),aq (aD rb) L 3 1 (ints (rA (bJ f a b) o))])
   (fun v O'=>(v=.bool true∧ ∃O2,O'=O2++[oI bp 238 [(vI a.vars),(vI a.start),(.slice j.nb a.next.length j.nc),(.slice j.fb a.aV.length j.fc),(vI b.vars),(vI b.start),(.slice k.nb b.next.length k.nc),(.slice k.fb b.aV.length k.fc),(.slice qb ((da (bJ f a b) (i+1)).length) qc),(.map (some m))],aq qb qc 234 2 (lw b.next.length (da (bJ f a b) (i+1))),dz eH (fun n:Nat=>Value.int .i64 (n:Int)) m (pmap b.next.length (da (bJ f a b) (i+1)))]∧J (i+1) O2)∨(v=.bool false∧Q O')))
  (O:List Lx.Item) (h0:J 0 O):
  cd Tryz.prog base 218 [yv,.pointer (aD bx)] ([oI bx 227 [(.pointer (aD bp))],oI bp 238 [(vI a.vars),(vI a.start),(.slice j.nb a.next.length j.nc),(.slice j.fb a.aV.length j.fc),(vI b.vars),(vI b.start),(.slice k.nb b.next.length k.nc),(.slice k.fb b.aV.length k.fc),(.slice qb0 ((da (bJ f a b) 0).length) qc0),(.map (some m))],aq qb0 qc0 234 2 (lw b.next.length (da (bJ f a b) 0)),dz eH (fun n:Nat=>Value.int .i64 (n:Int)) m (pmap b.next.length (da (bJ f a b) 0))]++O) (fun _ O'=>(∃N qb qc O2,O'=O2++[oI bp 238 [(vI a.vars),(vI a.start),(.slice j.nb a.next.length j.nc),(.slice j.fb a.aV.length j.fc),(vI b.vars),(vI b.start),(.slice k.nb b.next.length k.nc),(.slice k.fb b.aV.length k.fc),(.slice qb ((da (bJ f a b) N).length) qc),(.map (some m))],aq qb qc 234 2 (lw b.next.length (da (bJ f a b) N)),dz eH (fun n:Nat=>Value.int .i64 (n:Int)) m (pmap b.next.length (da (bJ f a b) N))]∧(da (bJ f a b) N).length=N∧J N O2)∨Q O'):=by
 refine aG func218 F ntmps218 F ?_
 have h4:a.next.length*b.next.length≤4096*4096:=Nat.mul_le_mul va.n4 vb.n4
 have hw:L≤64:=by rw[←hL];exact va.width
 have Pv:=ha.rows.1
 have Hk:=hb.rows.1
 refine ai (aj F (ae (aU ?_)))
 refine et (fun(i:Nat) ρ O=> ∃(qb:Option Addr) (qc:Nat) (O1:List Lx.Item),O=([oI bx 227 [(.pointer (aD bp))],oI bp 238 [(vI a.vars),(vI a.start),(.slice j.nb a.next.length j.nc),(.slice j.fb a.aV.length j.fc),(vI b.vars),(vI b.start),(.slice k.nb b.next.length k.nc),(.slice k.fb b.aV.length k.fc),(.slice qb ((da (bJ f a b) i).length) qc),(.map (some m))],aq qb qc 234 2 (lw b.next.length (da (bJ f a b) i)),dz eH (fun n:Nat=>Value.int .i64 (n:Int)) m (pmap b.next.length (da (bJ f a b) i))]++O1)∧i≤(da (bJ f a b) i).length∧J i O1∧dt [(0,yv),(1,(.pointer (aD bx))),(3,vN i)] ρ) (fun i=>a.next.length*b.next.length-i) 0 ?_ ?_
 ·exact⟨qb0,qc0,O,F,bs _,h0,⟨F,F,F,trivial⟩⟩
 rintro i ρ O ⟨qb,qc,O1,rfl,Fj,hJ,hH⟩
 obtain⟨gP,rfl⟩:=hH.elim
 clear hH
 have SH:=ke (f:=f) va vb hv i
 refine aO (ai (ah F (ad (bn 0 rK F F F F) (ad (bf F) (ad (bj oK F pm F F) (ad (bn 1 l9 F F F F) (ad (cP l9 F) (ad (cR F F) (ae (aP F (fun hc=>?_) (fun hc=>?_)))))))))))
 ·have lm:i<(da (bJ f a b) i).length:=by omega
  obtain⟨o,hq⟩: ∃o,(da (bJ f a b) i)[i]? =some o:=⟨_,ap lm⟩
  have ho:=(kq (f:=f) va vb hv i).2 o (bS hq)
  obtain⟨hs,ht⟩:=nW ho
  obtain⟨v1,c1,g1,s1⟩:=ha.rows.get hs
  obtain⟨v2,c2,g2,s2⟩:=hb.rows.get ht
  refine aE (aO (aU (ai (ad (bn 0 rK F F F F) (ad (bf F) (ad (bj oK F pm F F) (ad (bn 1 l9 F F F F) (ah F (ad (dU (i:=i) l9 gY F F (dX (mG 2 F)) lm (by rw[Ac];omega)) (ad (eP (vs:=[vN (o/b.next.length),vN (o%b.next.length)]) nq F gY F F (bw _) (dX (mG 2 F)) (Fc hq)) (ao F (bu gY F (fun z1=>?_)))))))))))))
  refine ao F (bV (vs:=[vN (o/b.next.length),vN (o%b.next.length)]) 0 gY F F F F ?_)
  refine ae (ai (ad (bn 1 rK F F F F) (ad (bf F) (ad (bj oK F bK F F) (ad (bj cS F bl F F) (ad (bn 2 dS F F F F) (ad (bT (nL (v:=a.vars.toNat) F (by show Value.int _ a.vars=_;rw[dn va.v0]) (by have:=va.v6;omega)) (v':=vN L) (by rw[hL])) (ao F (cW (m:=L) cI bl F F (by omega) (by omega) (fun z2=>?_))))))))))
  refine aj F (ae (aO (ai (ah F (ad (cP cI F) (ah F (ae (aU ?_))))))))
  refine dv (O':=([oI bp 238 [(vI a.vars),(vI a.start),(.slice j.nb a.next.length j.nc),(.slice j.fb a.aV.length j.fc),(vI b.vars),(vI b.start),(.slice k.nb b.next.length k.nc),(.slice k.fb b.aV.length k.fc),(.slice qb ((da (bJ f a b) i).length) qc),(.map (some m))],aq qb qc 234 2 (lw b.next.length (da (bJ f a b) i)),dz eH (fun n:Nat=>Value.int .i64 (n:Int)) m (pmap b.next.length (da (bJ f a b) i)),aq (aD z2) L 3 1 (List.replicate L (vI 0)),oI z1 234 [vN (o/b.next.length),vN (o%b.next.length)],oI bx 227 [(.pointer (aD bp))]]++O1)) (by exact Sub.eQ [aq (aD z2) L 3 1 (List.replicate L (vI 0)),oI z1 234 [vN (o/b.next.length),vN (o%b.next.length)],oI bx 227 [(.pointer (aD bp))]] _ (.eQ [aq (aD z2) L 3 1 (List.replicate L (vI 0)),oI z1 234 [vN (o/b.next.length),vN (o%b.next.length)],oI bx 227 [(.pointer (aD bp))]] _ (.eQ [aq (aD z2) L 3 1 (List.replicate L (vI 0)),oI z1 234 [vN (o/b.next.length),vN (o%b.next.length)],oI bx 227 [(.pointer (aD bp))]] _ (.k (.k (.k .rf)))))) ?_
  refine et (fun(x:Nat) ρ O=> ∃(E5:Option Addr) (E6:Nat) (ys:List Nat),O=([oI bp 238 [(vI a.vars),(vI a.start),(.slice j.nb a.next.length j.nc),(.slice j.fb a.aV.length j.fc),(vI b.vars),(vI b.start),(.slice k.nb b.next.length k.nc),(.slice k.fb b.aV.length k.fc),(.slice E5 ((kI (bJ f a b) i o x).length) E6),(.map (some m))],aq E5 E6 234 2 (lw b.next.length (kI (bJ f a b) i o x)),dz eH (fun n:Nat=>Value.int .i64 (n:Int)) m (pmap b.next.length (kI (bJ f a b) i o x)),aq (aD z2) L 3 1 (bU ys),oI z1 234 [vN (o/b.next.length),vN (o%b.next.length)],oI bx 227 [(.pointer (aD bp))]]++O1)∧x≤L∧ys.length=L∧(∀y,y<x→ys[y]? =some (ix (e7 (bJ f a b) o y) (order (bJ f a b))))∧dt [(0,yv),(1,(.pointer (aD bx))),(3,vN i),(4,(.pointer (aD z1))),(5,(.slice (aD z2) L L)),(31,vI (L:Int)),(32,vN x)] ρ) (fun x=>L-x) 0 ?_ ?_
  ·refine⟨qb,qc,List.replicate L 0,?_,bs _,by simp,fun y hy9=>absurd hy9 (by omega),(.of F)⟩
   rw[show List.replicate L (Value.int .i64 0)=bU (List.replicate L 0) by simp];rfl
  rintro x ρ O ⟨E5,E6,ys,rfl,hx,Cl,yJ,hH⟩
  obtain⟨gP,rfl⟩:=hH.elim
  clear hH
  refine ai (ad (cR F F) (ae (aO (aP F (fun hc=>?_) (fun hc=>?_)))))
  ·have acx:x<L:=by omega
   have QA:x<2^a.vars.toNat:=by omega
   have T6:x<2^b.vars.toNat:=by rw[←hv];exact QA
   obtain⟨t1,_,x1,d1⟩:=va.gV hs QA
   obtain⟨t2,_,x2,d2⟩:=vb.gV ht T6
   have yB:=(ua (f:=f) va vb hv ho QA).1
   have hdm:=Aa (n:=b.next.length) (s:=e7 a (o/b.next.length) x) t2
   rw[←yB]at hdm
   have Od:(ints a.next[o/b.next.length])[x]? =some (vN (e7 (bJ f a b) o x/b.next.length)):=by rw[gI x1,d1,hdm.1]
   have I2:(ints b.next[o%b.next.length])[x]? =some (vN (e7 (bJ f a b) o x%b.next.length)):=by rw[gI x2,d2,hdm.2]
   refine aE (aO (aU (ai (ah F (aj F (ae ?_))))))
   refine rX [] [oI bp 238 [(vI a.vars),(vI a.start),(.slice j.nb a.next.length j.nc),(.slice j.fb a.aV.length j.fc),(vI b.vars),(vI b.start),(.slice k.nb b.next.length k.nc),(.slice k.fb b.aV.length k.fc),(.slice E5 ((kI (bJ f a b) i o x).length) E6),(.map (some m))],oI z1 234 [vN (o/b.next.length),vN (o%b.next.length)],oI bx 227 [(.pointer (aD bp))]] [(0,0),(1,0),(2,3),(3,3),(4,3),(5,3),(6,3),(7,3),(8,3),(9,3),(10,3),(11,3),(12,3),(13,3),(14,3),(15,3),(16,3),(17,3),(18,3),(19,3),(20,3),(21,3),(22,3),(23,3),(24,3),(25,3),(26,3),(27,3),(28,4),(29,2),(30,2)] mixed (w_ (by kernel_rfl)) (cj (cm _)) (by exact Sub.k (.d (.d (.d (.k (.k .z)))))) (fun _ _ _ _ h=>h) ?_
   refine au F (aK F) (au F (aK F) ?_)
   refine dH F (bn 2 rK F F F F) ?_
   refine dH F (bn 2 rK F F F F) ?_
   refine dH F (bf F) ?_
   refine dH F (bj oK F bK F F) ?_
   refine dH F (bj cS F fa F F) ?_
   refine dH F (bn 0 eI F F F F) ?_
   refine dH F (bj nq F bl F F) ?_
   refine dH F (bn 1 dS F F F F) ?_
   refine dH F (dZ (i:=(o/b.next.length)) eI cU F F (aJ ha.outer) hs (by rw[Pv];exact hs)) ?_
   refine dH F (c_ cI F F (aJ ha.outer) g1) ?_
   refine dH F (aK F) ?_
   refine dH F (dZ (i:=x) cI bl F F (aJ s1) x1 (by rw[ar];exact x1)) ?_
   refine dH F (c_ dS F F (aJ s1) Od) ?_
   refine dH F (bn 2 rK F F F F) ?_
   refine dH F (bf F) ?_
   refine dH F (bj oK F bK F F) ?_
   refine dH F (bj cS F fa F F) ?_
   refine dH F (bn 0 eI F F F F) ?_
   refine dH F (bj nq F bl F F) ?_
   refine dH F (bn 1 dS F F F F) ?_
   refine dH F (dZ (i:=(o%b.next.length)) eI cU F F (aJ hb.outer) ht (by rw[Hk];exact ht)) ?_
   refine dH F (c_ cI F F (aJ hb.outer) g2) ?_
   refine dH F (aK F) ?_
   refine dH F (dZ (i:=x) cI bl F F (aJ s2) x2 (by rw[ar];exact x2)) ?_
   refine dH F (c_ dS F F (aJ s2) I2) ?_
   refine dH F (cF (cs:=[vN ((e7 (bJ f a b) o x)/b.next.length),vN ((e7 (bJ f a b) o x)%b.next.length)]) F5 gY (by kernel_rfl)) ?_
   have Kz:=cd.under (B:=([aq (aD z2) L 3 1 (bU ys),oI z1 234 [vN (o/b.next.length),vN (o%b.next.length)],oI bx 227 [(.pointer (aD bp))]]++O1)) (O:=([oI bp 238 [(vI a.vars),(vI a.start),(.slice j.nb a.next.length j.nc),(.slice j.fb a.aV.length j.fc),(vI b.vars),(vI b.start),(.slice k.nb b.next.length k.nc),(.slice k.fb b.aV.length k.fc),(.slice E5 ((kI (bJ f a b) i o x).length) E6),(.map (some m))],aq E5 E6 234 2 (lw b.next.length (kI (bJ f a b) i o x)),dz eH (fun n:Nat=>Value.int .i64 (n:Int)) m (pmap b.next.length (kI (bJ f a b) i o x)),aq (aD z2) L 3 1 (bU ys),oI z1 234 [vN (o/b.next.length),vN (o%b.next.length)],oI bx 227 [(.pointer (aD bp))]]++O1)) (pvS base f a b j k bp m i o x E5 E6 va vb hv hq (by omega)) (by exact Sub.rf)
   refine wW F F (bm Tb Kz F ?_)
   clear Kz
   rintro vr O' ⟨A1,rfl,rfl,qb2,qc2,rfl⟩
   refine⟨by exact Sub.z,?_⟩
   refine cu F F (eO F F (dZ (i:=x) cI bl F F (dX (mG 3 F))) ?_)
   refine cu F F (n7 (j:=x) (v:=vN (ix (e7 (bJ f a b) o x) (order (bJ f a b)))) (vs:=[(vN (ix (e7 (bJ f a b) o x) (order (bJ f a b))))]) (cs:=bU ys) 3 bl F F F F F (by simp) F (by first|(simp;omega)|(simp_all;omega)) ?_)
   refine eW (O':=([oI bp 238 [(vI a.vars),(vI a.start),(.slice j.nb a.next.length j.nc),(.slice j.fb a.aV.length j.fc),(vI b.vars),(vI b.start),(.slice k.nb b.next.length k.nc),(.slice k.fb b.aV.length k.fc),(.slice qb2 ((kI (bJ f a b) i o (x+1)).length) qc2),(.map (some m))],aq qb2 qc2 234 2 (lw b.next.length (kI (bJ f a b) i o (x+1))),dz eH (fun n:Nat=>Value.int .i64 (n:Int)) m (pmap b.next.length (kI (bJ f a b) i o (x+1))),aq (aD z2) L 3 1 (bU (ys.set x (ix (e7 (bJ f a b) o x) (order (bJ f a b))))),oI z1 234 [vN (o/b.next.length),vN (o%b.next.length)],oI bx 227 [(.pointer (aD bp))]]++O1)) (by rw[show fe (bU ys) x [(vN (ix (e7 (bJ f a b) o x) (order (bJ f a b))))]=bU (ys.set x (ix (e7 (bJ f a b) o x) (order (bJ f a b))))from by simp[fe]];exact cj (aZ _)) ?_
   refine cy ?_
   refine be (ad (dx (a:=x) (b:=1) F F (by omega)) (ah F (ae ?_)))
   refine⟨x+1,by omega,qb2,qc2,ys.set x (ix (e7 (bJ f a b) o x) (order (bJ f a b))),F,by omega,by simp[Cl],fun y hy9=>?_,(.of F)⟩
   by_cases e:y=x
   ·subst e;rw[List.getElem?_set_self (by omega)]
   ·rw[List.getElem?_set_ne (fun h=>e h.symm)];exact yJ y (by omega)
  have acy: ¬x<L:=by omega
  refine cG ?_
  refine aO ?_
  have Ej:x=L:=by omega
  have e1:da (bJ f a b) (i+1)=kI (bJ f a b) i o x:=by rw[Ej,←hL];exact(yT hq).symm
  have e3:rS (bJ f a b) o=ys:=by
   apply List.ext_getElem?
   intro y
   by_cases hy9:y<L
   ·rw[yJ y (by omega)]
    have hy8:y<2^(bJ f a b).vars.toNat:=by show y<2^a.vars.toNat;omega
    unfold rS
    rw[bq,x5 hy8];rfl
   ·rw[bQ (by rw[nR];show 2^a.vars.toNat≤y;omega),bQ (by omega)]
  have e2:ints (rA (bJ f a b) o)=bU ys:=by unfold rA;rw[e3];simp[Function.comp_def]
  refine dv (O':=([oI bp 238 [(vI a.vars),(vI a.start),(.slice j.nb a.next.length j.nc),(.slice j.fb a.aV.length j.fc),(vI b.vars),(vI b.start),(.slice k.nb b.next.length k.nc),(.slice k.fb b.aV.length k.fc),(.slice E5 ((da (bJ f a b) (i+1)).length) E6),(.map (some m))],aq E5 E6 234 2 (lw b.next.length (da (bJ f a b) (i+1))),dz eH (fun n:Nat=>Value.int .i64 (n:Int)) m (pmap b.next.length (da (bJ f a b) (i+1))),aq (aD z2) L 3 1 (ints (rA (bJ f a b) o)),oI z1 234 [vN (o/b.next.length),vN (o%b.next.length)],oI bx 227 [(.pointer (aD bp))]]++O1)) (by rw[e1,e2];exact Sub.rf) ?_
  refine be (ah F (ad (ew 4 nq F gY F F F) (ah F ?_)))
  have JI:=eK.under (B:=[oI z1 234 [vN (o/b.next.length),vN (o%b.next.length)],oI bx 227 [(.pointer (aD bp))]]) (O:=([oI bp 238 [(vI a.vars),(vI a.start),(.slice j.nb a.next.length j.nc),(.slice j.fb a.aV.length j.fc),(vI b.vars),(vI b.start),(.slice k.nb b.next.length k.nc),(.slice k.fb b.aV.length k.fc),(.slice E5 ((da (bJ f a b) (i+1)).length) E6),(.map (some m))],aq E5 E6 234 2 (lw b.next.length (da (bJ f a b) (i+1))),dz eH (fun n:Nat=>Value.int .i64 (n:Int)) m (pmap b.next.length (da (bJ f a b) (i+1))),aq (aD z2) L 3 1 (ints (rA (bJ f a b) o)),oI z1 234 [vN (o/b.next.length),vN (o%b.next.length)],oI bx 227 [(.pointer (aD bp))]]++O1)) (hy i o E5 E6 z2 O1 hq hJ) (gS [])
  refine ao F (fh JI F F ?_)
  clear JI
  rintro vr O' ⟨A1,rfl,⟨rfl,O2,rfl,T_⟩|⟨rfl,hQ2⟩⟩
  ·refine ad (i_ F) ?_
   refine ae (a_ F (aE ?_))
   refine dv (O':=([oI bx 227 [(.pointer (aD bp))],oI bp 238 [(vI a.vars),(vI a.start),(.slice j.nb a.next.length j.nc),(.slice j.fb a.aV.length j.fc),(vI b.vars),(vI b.start),(.slice k.nb b.next.length k.nc),(.slice k.fb b.aV.length k.fc),(.slice E5 ((da (bJ f a b) (i+1)).length) E6),(.map (some m))],aq E5 E6 234 2 (lw b.next.length (da (bJ f a b) (i+1))),dz eH (fun n:Nat=>Value.int .i64 (n:Int)) m (pmap b.next.length (da (bJ f a b) (i+1)))]++O2)) (gS [oI z1 234 [vN (o/b.next.length),vN (o%b.next.length)]]) ?_
   refine be (ah F (ad (dx (a:=i) (b:=1) F F (by omega)) (aj F (ae ?_))))
   have CH:=(jy (bJ f a b) i (i+1) (by omega)).length_le
   exact⟨i+1,by omega,E5,E6,O2,F,by omega,T_,⟨F,F,F,trivial⟩⟩
  refine ad (i_ F) (ae ?_)
  refine bW F ?_
  refine aN (az ?_)
  refine ru.zero Tryz.results218 ?_
  exact⟨A1,cj (List.sublist_append_left _ _),.inr hQ2⟩
 have JD: ¬i<(da (bJ f a b) i).length:=by omega
 refine cG ?_
 refine az ?_
 refine ru.zero Tryz.results218 ?_
 have hN:(da (bJ f a b) i).length=i:=by omega
 exact⟨O1++[oI bp 238 [(vI a.vars),(vI a.start),(.slice j.nb a.next.length j.nc),(.slice j.fb a.aV.length j.fc),(vI b.vars),(vI b.start),(.slice k.nb b.next.length k.nc),(.slice k.fb b.aV.length k.fc),(.slice qb ((da (bJ f a b) i).length) qc),(.map (some m))],aq qb qc 234 2 (lw b.next.length (da (bJ f a b) i)),dz eH (fun n:Nat=>Value.int .i64 (n:Int)) m (pmap b.next.length (da (bJ f a b) i))],gS [oI bx 227 [(.pointer (aD bp))]],.inl ⟨i,qb,qc,O1,F,hN,hJ⟩⟩
end Go.Proofs.YtgdbfideeeegmaaGreatDoor

namespace Go.Proofs.YtgdbfideeeegmaaGreatDoor
open Go.Lx Go.RowKit _root_.Go.Proofs.Tryz
theorem RE (w:World) [dB Tryz.prog w] (d:cM) (k:DK) (h:At w d k) (hb:d.next.length<9223372036854775807) (qV: ∀r∈d.next,r.length<9223372036854775807) (rP:d.aV.length<9223372036854775807) (hn:Valid d→d.next.length<10000):
  cA Tryz.prog 23 [dV d k] w fun v N=> ∃k':DK,v=.tuple #[dV (rO d) k',vI (cX d:Int)]∧N=[dI 56 4 3 (rO d) k']:=
 cd.dk (g:=fun x=>.tuple #[x,vI (cX d:Int)]) (aaK w d k.nb k.fb k.nc k.fc (dl k.qs) h hb qV rP hn)
theorem B2 (w:World) [dB Tryz.prog w] (d:cM) (k:DK) (h:At w d k) (hv:Valid d) (hn:d.next.length<10000) {M:cM} (hM:fJ d=M):
  cA Tryz.prog 23 [dV d k] w fun v N=> ∃k':DK,v=.tuple #[dV M k',vI 0]∧N=[dI 56 4 3 M k']:=by
 have h1:=RE w d k h (by have:=hv.n4;omega) hv.wM (by have:=hv.fin;have:=hv.n4;omega) (fun _=>hn)
 rw[yg hv,hM,dO.2 hv]at h1
 exact h1
theorem aaL (base:World) (x y:Bool):cd Tryz.prog base 139 [.bool x,.bool y] [] (fun v O'=>v=.bool (pU x y)∧O'=[]):=by
 refine aG func139 F ntmps139 F ?_
 refine ai (aj F (ae (ai (ah F (ad (i_ F) (aj F (ae (aN ?_))))))))
 refine aT (.bool (!x)) Tryz.results139 F ?_
 cases x<;>cases y<;>first|exact⟨F,F⟩|(exfalso;simp_all;done)|simp_all[rR,DH,IG,wI,pU]
set_option maxRecDepth 20000 in
theorem Xv (base:World) (x y:Bool):eK Tryz.prog base (.func (.func 139) #[] #[]) [.bool x,.bool y] [] (fun v O'=>v=.bool (pU x y)∧O'=[]):=cQ (first:=[]) (gv:=[]) S5 (aaL base x y)
theorem aaM (base:World) (x y:Bool):cd Tryz.prog base 152 [.bool x,.bool y] [] (fun v O'=>v=.bool (rR x y)∧O'=[]):=by
 refine aG func152 F ntmps152 F ?_
 refine ai (aj F (ae (ai (ah F ?_))))
 by_cases Xw:x=true
 ·refine ad (aA (aK F) (Xw)) ?_
  refine aB F F (aK F) (ad (cg F F) (aj F (ae (aN ?_))))
  refine aT (.bool y) Tryz.results152 F ?_
  cases x<;>cases y<;>first|exact⟨F,F⟩|(exfalso;simp_all;done)|simp_all[rR,DH,IG,wI,pU]
 refine ad (aA (aK F) (Bool.eq_false_iff.2 Xw)) (aS F F (ad (b_ F F) (aj F (ae (aN ?_)))))
 refine aT (.bool false) Tryz.results152 F ?_
 cases x<;>cases y<;>first|exact⟨F,F⟩|(exfalso;simp_all;done)|simp_all[rR,DH,IG,wI,pU]
set_option maxRecDepth 20000 in
theorem Wc (base:World) (x y:Bool):eK Tryz.prog base (.func (.func 152) #[] #[]) [.bool x,.bool y] [] (fun v O'=>v=.bool (rR x y)∧O'=[]):=cQ (first:=[]) (gv:=[]) S7 (aaM base x y)
theorem orF (base:World) (x y:Bool):cd Tryz.prog base 151 [.bool x,.bool y] [] (fun v O'=>v=.bool (DH x y)∧O'=[]):=by
 refine aG func151 F ntmps151 F ?_
 refine ai (aj F (ae (ai (ah F ?_))))
 by_cases Xw:x=true
 ·refine ad (aA (aK F) (Xw)) ?_
  refine aS F F (ad (cg F F) (aj F (ae (aN ?_))))
  refine aT (.bool true) Tryz.results151 F ?_
  cases x<;>cases y<;>first|exact⟨F,F⟩|(exfalso;simp_all;done)|simp_all[rR,DH,IG,wI,pU]
 refine ad (aA (aK F) (Bool.eq_false_iff.2 Xw)) (aB F F (aK F) (ad (b_ F F) (aj F (ae (aN ?_)))))
 refine aT (.bool y) Tryz.results151 F ?_
 cases x<;>cases y<;>first|exact⟨F,F⟩|(exfalso;simp_all;done)|simp_all[rR,DH,IG,wI,pU]
set_option maxRecDepth 20000 in
theorem ZJ (base:World) (x y:Bool):eK Tryz.prog base (.func (.func 151) #[] #[]) [.bool x,.bool y] [] (fun v O'=>v=.bool (DH x y)∧O'=[]):=cQ (first:=[]) (gv:=[]) S6 (orF base x y)
theorem E7 (w:World) [dB Tryz.prog w] (a b:cM) (j k:DK) (ha:At w a j) (hb:At w b k) (GI:a.next.length<9223372036854775807) (uQ: ∀r∈a.next,r.length<9223372036854775807) (uR:a.aV.length<9223372036854775807) (SK:b.next.length<9223372036854775807) (LY: ∀r∈b.next,r.length<9223372036854775807) (LZ:b.aV.length<9223372036854775807) (g:Nat) (he:gQ a b≠0):
  cA Tryz.prog 138 [dV a j,dV b k,.func (.func g) #[] #[]] w fun v N=>v=.tuple #[dV Dv ⟨none,0,none,0,[]⟩,vI (gQ a b:Int)]∧N=[]:=by
 refine aG func138 F ntmps138 F ?_
 refine ai (ao F (dE (cs:=(dC a j)) F F (fun nP=>?_)))
 refine ao F (dE (cs:=(dC b k)) F F (fun xy=>?_))
 refine ao F (dE (cs:=[(.func (.func g) #[] #[])]) F F (fun Kr=>?_))
 refine ao F (bu bK F (fun bx4=>?_))
 refine ao F (bu iV F (fun bx5=>?_))
 refine ae (ai (ad (ew 4 cS F bK F F F) (ad (ew 3 cS F bK F F F) (ao F (bm EQ (aX fun w1 hI=>(haveI:=ey hI;LX w1 a b j k (hI.oP ha) (hI.oP hb) GI uQ uR SK LY LZ he)) F ?_)))))
 rintro vr O' ⟨N,rfl,rfl,rfl⟩
 refine ah F (ad (bG (vs:=_) F F) (ad (bG (vs:=_) F F) (ao F (bu uC F (fun bx6=>?_)))))
 refine ao F (bV (vs:=[(.pointer none)]) 0 uC F F F F ?_)
 refine aj F (ae (aO (ai (ah F (ad (dP F F) (ae ?_))))))
 refine bW (ax Value.bool (av (by omega))) ?_
 refine ai (ad (cF jj bK F) (ah F (ao F (bV (vs:=[(vI 0),(vI 0),nS,nS]) 2 bK F F F F ?_))))
 refine ao F (bV (vs:=[(vI (gQ a b:Int))]) 1 iV F F F F ?_)
 refine ae (aN (az ?_))
 refine iA (i:=2) (j:=1) Tryz.results138 cS F bK ow F F F F F F ?_
 exact⟨[],Sub.z,F,F⟩
theorem CA (w:World) [dB Tryz.prog w] (a b:cM) (j k:DK) (ha:At w a j) (hb:At w b k) (va:Valid a) (vb:Valid b) (hv:a.vars=b.vars) (f:Bool→Bool→Bool) (g:Nat) (hf: ∀(base:World) (x y:Bool),eK Tryz.prog base (.func (.func g) #[] #[]) [.bool x,.bool y] [] (fun v O'=>v=.bool (f x y)∧O'=[])) (hN8:(order (bJ f a b)).length≤4096):
  cA Tryz.prog 138 [dV a j,dV b k,.func (.func g) #[] #[]] w fun v N=> ∃k':DK,v=.tuple #[dV (t_ f a b) k',vI 0]∧N=[dI 56 4 3 (t_ f a b) k']:=by
 refine aG func138 F ntmps138 F ?_
 have h4:a.next.length*b.next.length≤4096*4096:=Nat.mul_le_mul va.n4 vb.n4
 obtain⟨L,hL⟩: ∃L,2^a.vars.toNat=L:=⟨_,F⟩
 have hw:L≤64:=by rw[←hL];exact va.width
 refine ai (ao F (dE (cs:=(dC a j)) F F (fun z1=>?_)))
 refine ao F (dE (cs:=(dC b k)) F F (fun z2=>?_))
 refine ao F (dE (cs:=[(.func (.func g) #[] #[])]) F F (fun z3=>?_))
 refine ao F (bu bK F (fun z4=>?_))
 refine ao F (bu iV F (fun z5=>?_))
 refine ae (ai (ad (ew 4 cS F bK F F F) (ad (ew 3 cS F bK F F F) (ao F (bm EQ (aX fun w1 hI=>(haveI:=ey hI;GJ w1 a b j k (hI.oP ha) (hI.oP hb) va vb hv)) F ?_)))))
 rintro vr O' ⟨N,rfl,bp,qb,m,rfl,rfl⟩
 refine ah F (ad (bG (vs:=_) F F) (ad (bG (vs:=_) F F) (ao F (bu uC F (fun z6=>?_)))))
 refine ao F (bV (vs:=[(.pointer (aD bp))]) 0 uC F F F F ?_)
 refine aj F (ae (aO (ai (ah F (ad (dP F F) (ae (a_ F (aE (ai (ad (bj cS F bl F F) (ad (bn 8 dS F F F F) (ad (cF (cs:=[(vI a.vars),(vI 0),nS,nS]) jj bK (by kernel_rfl)) (ao F (bu bK F (fun z7=>?_)))))))))))))))
 refine ao F (bV (vs:=[(vI a.vars),(vI 0),nS,nS]) 0 bK F F F F ?_)
 refine ae (aO (aO (T.eY 4 1 ?_)))
 refine T.eY 56 1 ?_
 refine be (ad (bn 3 rK F F F F) (ao F (bm Lb (aX fun w1 hI=>(haveI:=ey hI;L0 w1 bp)) F ?_)))
 rintro vr O' ⟨N,rfl,bP,rfl,rfl⟩
 refine ae (aU ?_)
 refine T.rangeFunc (first:=[]) (gv:=[(.pointer (aD bP))]) F Lc (fun yl yq Tk=>?_)
 refine cd.mono (cd.sub (O':=oI bP 227 [(.pointer (aD bp))]::oI bp 238 [(vI a.vars),(vI a.start),(.slice j.nb a.next.length j.nc),(.slice j.fb a.aV.length j.fc),(vI b.vars),(vI b.start),(.slice k.nb b.next.length k.nc),(.slice k.fb b.aV.length k.fc),(.slice (aD qb) ([a.start.toNat*b.next.length+b.start.toNat].length) 1),(.map (some m))]::aq (aD qb) 1 234 2 (lw b.next.length [a.start.toNat*b.next.length+b.start.toNat])::dz eH (fun n:Nat=>Value.int .i64 (n:Int)) m (pmap b.next.length [a.start.toNat*b.next.length+b.start.toNat])::(dR yl (lp yq none)::[aq none 0 56 1 (dl []),aq none 0 4 1 (cE []),oI z7 25 [(vI a.vars),(vI 0),nS,nS],oI z6 227 [(.pointer (aD bp))],oI z5 27 [(vI 0)],oI z4 25 [(vI 0),(vI 0),nS,nS],oI z3 197 [(.func (.func g) #[] #[])],oI z2 25 (dC b k),oI z1 25 (dC a j)])) (aC [1,5,5,5,0,0,0,0,0,0,0,0,0,0] F) (L3 w f a b j k ha hb va vb hv L hL bP bp m (aD qb) 1 (.func (.yield yl) #[] #[]) (fun i O=> ∃(tR ry:Option Addr) (tS rz n1 n2:Nat) (qs:List Rec) (fs:List Bool),O=dR yl (lp yq none)::([aq tR tS 56 1 (dl qs),aq ry rz 4 1 (cE fs),oI z7 25 [(vI a.vars),(vI 0),(.slice tR n1 tS),(.slice ry n2 rz)],oI z6 227 [(.pointer (aD bp))],oI z5 27 [(vI 0)],oI z4 25 [(vI 0),(vI 0),nS,nS],oI z3 197 [(.func (.func g) #[] #[])],oI z2 25 (dC b k),oI z1 25 (dC a j)]++(ce 3 qs))∧n1=i∧n2=i∧qs.length=i∧fs.length=i∧nums qs=((order (bJ f a b)).take i).map (rA (bJ f a b))∧fs=((order (bJ f a b)).take i).map (dD (bJ f a b))) (fun _=>False) ?_ _ ?_)) ?_
 ·intro i o qb qc rb O hq hJ
  obtain⟨tR,ry,tS,rz,n1,n2,qs,fs,rfl,hn1,hn2,Hw,qY,zr,mf⟩:=hJ
  refine eK.yield Tk F F ?_
  refine dv (O':=([aq tR tS 56 1 (dl qs),aq ry rz 4 1 (cE fs),oI z7 25 [(vI a.vars),(vI 0),(.slice tR n1 tS),(.slice ry n2 rz)],oI z6 227 [(.pointer (aD bp))],oI z5 27 [(vI 0)],oI z4 25 [(vI 0),(vI 0),nS,nS],oI z3 197 [(.func (.func g) #[] #[])],oI z2 25 (dC b k),oI z1 25 (dC a j),oI bp 238 [(vI a.vars),(vI a.start),(.slice j.nb a.next.length j.nc),(.slice j.fb a.aV.length j.fc),(vI b.vars),(vI b.start),(.slice k.nb b.next.length k.nc),(.slice k.fb b.aV.length k.fc),(.slice qb ((da (bJ f a b) (i+1)).length) qc),(.map (some m))],aq qb qc 234 2 (lw b.next.length (da (bJ f a b) (i+1))),dz eH (fun n:Nat=>Value.int .i64 (n:Int)) m (pmap b.next.length (da (bJ f a b) (i+1))),aq (aD rb) L 3 1 (ints (rA (bJ f a b) o))]++ce 3 qs)) (by exact gK [aq tR tS 56 1 (dl qs),aq ry rz 4 1 (cE fs),oI z7 25 [(vI a.vars),(vI 0),(.slice tR n1 tS),(.slice ry n2 rz)],oI z6 227 [(.pointer (aD bp))],oI z5 27 [(vI 0)],oI z4 25 [(vI 0),(vI 0),nS,nS],oI z3 197 [(.func (.func g) #[] #[])],oI z2 25 (dC b k),oI z1 25 (dC a j)] _ (ce 3 qs)) ?_
  have SH:=ke (f:=f) va vb hv i
  have Yf:=(List.getElem?_eq_some_iff.1 hq).1
  have ho:=(kq (f:=f) va vb hv i).2 o (bS hq)
  obtain⟨hs,ht⟩:=nW ho
  have Xx:=IQ hq (by rw[jl];omega)
  have Yn:(cE a.aV)[o/b.next.length]? =some (.bool (dD a (o/b.next.length))):=by
   have hl:o/b.next.length<a.aV.length:=by rw[va.fin];exact hs
   rw[iy hl];unfold dD;rw[aw,ap hl];rfl
  have xJ:(cE b.aV)[o%b.next.length]? =some (.bool (dD b (o%b.next.length))):=by
   have hl:o%b.next.length<b.aV.length:=by rw[vb.fin];exact ht
   rw[iy hl];unfold dD;rw[aw,ap hl];rfl
  have Dw:(rA (bJ f a b) o).length=L:=by unfold rA;rw[ar,nR];exact hL
  have hvq:dl (qs++[⟨some ⟨rb,0,none⟩,L,rA (bJ f a b) o⟩])=dl qs++[.slice (aD rb) L L]:=by simp[Rec.val,Dw]
  have hbq:cE (fs++[f (dD a (o/b.next.length)) (dD b (o%b.next.length))])=cE fs++[.bool (f (dD a (o/b.next.length)) (dD b (o%b.next.length)))]:=by simp
  have aaS:=ke (f:=f) va vb hv (i+1)
  have ki:(da (bJ f a b) (i+1)).length≤4096:=bE (jy (bJ f a b) (i+1) (bJ f a b).next.length (by rw[jl];omega)).length_le hN8
  refine ai (ao F (bu gY F (fun z8=>?_)))
  refine ao F (bV (vs:=[vN (o/b.next.length),vN (o%b.next.length)]) 0 gY F F F F ?_)
  refine ae (be (aj F (ae (aU (aO (ai (ad (bn 4 rK F F F F) (ad (bf F) (ad (bj oK F pm F F) (ad (bn 10 l9 F F F F) (ad (cP l9 F) (ad (aA (gH F F) (ak (by omega))) (ae (a_ F (aE ?_)))))))))))))))
  refine T.ds [oI z8 234 [vN (o/b.next.length),vN (o%b.next.length)],oI z7 25 [(vI a.vars),(vI 0),(.slice tR n1 tS),(.slice ry n2 rz)],oI z6 227 [(.pointer (aD bp))],oI z5 27 [(vI 0)],oI z4 25 [(vI 0),(vI 0),nS,nS],oI z3 197 [(.func (.func g) #[] #[])],oI z2 25 (dC b k),oI z1 25 (dC a j),oI bp 238 [(vI a.vars),(vI a.start),(.slice j.nb a.next.length j.nc),(.slice j.fb a.aV.length j.fc),(vI b.vars),(vI b.start),(.slice k.nb b.next.length k.nc),(.slice k.fb b.aV.length k.fc),(.slice qb ((da (bJ f a b) (i+1)).length) qc),(.map (some m))]] [(0,0),(1,0),(2,0),(5,0),(6,0),(7,0),(8,0),(9,0),(10,0),(11,0),(12,0),(13,0),(14,0),(15,0),(16,0),(17,0),(18,0),(19,0),(3,1),(4,1),(23,0),(20,1),(21,1),(22,1),(24,2),(25,2),(26,2)] (by exact Sub.k (.d (.d (.k (.k (.k (.k (.k (.k (.k (.k .z))))))))))) ?_
  refine au F (bj cS F fa F F) (au F (bn 1 eI F F F F) (au F (aK F) (au F (bj cS F dy F F) (au F (bn 1 eu F F F F) (au F (bn 5 QD F F F F) (au F (bj cS F dy F F) (au F (bn 7 eu F F F F) (au F (bj nq F bl F F) (au F (bn 0 dS F F F F) (au F (dZ (i:=(o/b.next.length)) eu fw F F (aJ ha.aV) (by rw[va.fin];exact hs) (by rw[ar,va.fin];exact hs)) (au F (c_ Bh F F (aJ ha.aV) Yn) (au F (bj cS F dy F F) (au F (bn 6 eu F F F F) (au F (bj nq F bl F F) (au F (bn 0 dS F F F F) (au F (dZ (i:=(o%b.next.length)) eu fw F F (aJ hb.aV) (by rw[vb.fin];exact ht) (by rw[ar,vb.fin];exact ht)) (au F (c_ Bh F F (aJ hb.aV) xJ) ?_)))))))))))))))))
  refine cx F F (cO (v:=(.slice (aD rb) L L)) eI cU F F F (fun z9=>⟨by exact Sub.d (.k (.d (.d (.k (.k (.k (.k (.k (.k (.k (.k .z))))))))))),?_⟩))
  refine cx F F (dh 2 eI eI cU F F F F (by simp;omega) (by decide) (Src.row (j:=0) F (by simp)) (by simp[fu]) (by omega) (by decide) (by decide) (fun pF kn=>⟨by exact Sub.d (.k (.d (.d (.k (.k (.k (.k (.k (.k (.k (.k .z))))))))))),?_⟩))
  refine au F (bj cS F fa F F) ?_
  have B_:=eK.under (B:=([aq (aD z9) 1 56 1 [(.slice (aD rb) L L)],oI z8 234 [vN (o/b.next.length),vN (o%b.next.length)],aq pF kn 56 1 ((dl qs)++[(.slice (aD rb) L L)]),aq ry rz 4 1 (cE fs),oI z7 25 [(vI a.vars),(vI 0),(.slice tR n1 tS),(.slice ry n2 rz)],oI z6 227 [(.pointer (aD bp))],oI z5 27 [(vI 0)],oI z4 25 [(vI 0),(vI 0),nS,nS],oI z3 197 [(.func (.func g) #[] #[])],oI z2 25 (dC b k),oI z1 25 (dC a j),oI bp 238 [(vI a.vars),(vI a.start),(.slice j.nb a.next.length j.nc),(.slice j.fb a.aV.length j.fc),(vI b.vars),(vI b.start),(.slice k.nb b.next.length k.nc),(.slice k.fb b.aV.length k.fc),(.slice qb ((da (bJ f a b) (i+1)).length) qc),(.map (some m))],aq qb qc 234 2 (lw b.next.length (da (bJ f a b) (i+1))),dz eH (fun n:Nat=>Value.int .i64 (n:Int)) m (pmap b.next.length (da (bJ f a b) (i+1))),aq (aD rb) L 3 1 (ints (rA (bJ f a b) o))]++ce 3 qs)) (O:=([aq (aD z9) 1 56 1 [(.slice (aD rb) L L)],oI z8 234 [vN (o/b.next.length),vN (o%b.next.length)],aq pF kn 56 1 ((dl qs)++[(.slice (aD rb) L L)]),aq ry rz 4 1 (cE fs),oI z7 25 [(vI a.vars),(vI 0),(.slice tR n1 tS),(.slice ry n2 rz)],oI z6 227 [(.pointer (aD bp))],oI z5 27 [(vI 0)],oI z4 25 [(vI 0),(vI 0),nS,nS],oI z3 197 [(.func (.func g) #[] #[])],oI z2 25 (dC b k),oI z1 25 (dC a j),oI bp 238 [(vI a.vars),(vI a.start),(.slice j.nb a.next.length j.nc),(.slice j.fb a.aV.length j.fc),(vI b.vars),(vI b.start),(.slice k.nb b.next.length k.nc),(.slice k.fb b.aV.length k.fc),(.slice qb ((da (bJ f a b) (i+1)).length) qc),(.map (some m))],aq qb qc 234 2 (lw b.next.length (da (bJ f a b) (i+1))),dz eH (fun n:Nat=>Value.int .i64 (n:Int)) m (pmap b.next.length (da (bJ f a b) (i+1))),aq (aD rb) L 3 1 (ints (rA (bJ f a b) o))]++(ce 3 qs))) (hf w (dD a (o/b.next.length)) (dD b (o%b.next.length))) (by exact Sub.rf)
  refine cx F F (fh B_ F F ?_)
  clear B_
  rintro vr O' ⟨A1,rfl,rfl,rfl⟩
  refine⟨by exact Sub.d (.k (.d (.d (.k (.k (.k (.k (.k (.k (.k (.k .z))))))))))),?_⟩
  refine cx F F (cO (v:=.bool (f (dD a (o/b.next.length)) (dD b (o%b.next.length)))) eu fw F F F (fun z12=>⟨by exact Sub.d (.d (.k (.d (.d (.k (.k (.k (.k (.k (.k (.k (.k .z)))))))))))),?_⟩))
  refine cx F F (dh 4 eu eu fw F F F F (by simp;omega) (by decide) (Src.row (j:=0) F (by simp)) (by simp[fu]) (by omega) (by decide) (by decide) (fun nF lY=>⟨by exact Sub.d (.d (.k (.d (.d (.k (.k (.k (.k (.k (.k (.k (.k .z)))))))))))),?_⟩))
  refine cu F F (bV (vs:=[(.slice pF (n1+1) kn)]) 5 fa F F F F ?_)
  refine cu F F (eO F F (bj cS F dy F F) ?_)
  refine cu F F (bV (vs:=[(.slice nF (n2+1) lY)]) 5 dy F F F F ?_)
  refine eW (O':=([aq pF kn 56 1 ((dl qs)++[(.slice (aD rb) L L)]),aq nF lY 4 1 ((cE fs)++[.bool (f (dD a (o/b.next.length)) (dD b (o%b.next.length)))]),oI z7 25 [(vI a.vars),(vI 0),(.slice pF (n1+1) kn),(.slice nF (n2+1) lY)],oI z6 227 [(.pointer (aD bp))],oI z5 27 [(vI 0)],oI z4 25 [(vI 0),(vI 0),nS,nS],oI z3 197 [(.func (.func g) #[] #[])],oI z2 25 (dC b k),oI z1 25 (dC a j),aq (aD rb) L 3 1 (ints (rA (bJ f a b) o)),oI bp 238 [(vI a.vars),(vI a.start),(.slice j.nb a.next.length j.nc),(.slice j.fb a.aV.length j.fc),(vI b.vars),(vI b.start),(.slice k.nb b.next.length k.nc),(.slice k.fb b.aV.length k.fc),(.slice qb ((da (bJ f a b) (i+1)).length) qc),(.map (some m))],aq qb qc 234 2 (lw b.next.length (da (bJ f a b) (i+1))),dz eH (fun n:Nat=>Value.int .i64 (n:Int)) m (pmap b.next.length (da (bJ f a b) (i+1)))]++ce 3 qs)) (by exact Sub.d (.d (.d (.k (.k (.k (.k (.k (.k (.k (.k (.k (.eQ [oI bp 238 [(vI a.vars),(vI a.start),(.slice j.nb a.next.length j.nc),(.slice j.fb a.aV.length j.fc),(vI b.vars),(vI b.start),(.slice k.nb b.next.length k.nc),(.slice k.fb b.aV.length k.fc),(.slice qb ((da (bJ f a b) (i+1)).length) qc),(.map (some m))],aq qb qc 234 2 (lw b.next.length (da (bJ f a b) (i+1))),dz eH (fun n:Nat=>Value.int .i64 (n:Int)) m (pmap b.next.length (da (bJ f a b) (i+1)))] _ (.k (.k (.k .rf)))))))))))))))) ?_
  refine eW (O':=(([aq pF kn 56 1 (dl (qs++[⟨some ⟨rb,0,none⟩,L,rA (bJ f a b) o⟩])),aq nF lY 4 1 (cE (fs++[f (dD a (o/b.next.length)) (dD b (o%b.next.length))])),oI z7 25 [(vI a.vars),(vI 0),(.slice pF (n1+1) kn),(.slice nF (n2+1) lY)],oI z6 227 [(.pointer (aD bp))],oI z5 27 [(vI 0)],oI z4 25 [(vI 0),(vI 0),nS,nS],oI z3 197 [(.func (.func g) #[] #[])],oI z2 25 (dC b k),oI z1 25 (dC a j)]++ce 3 (qs++[⟨some ⟨rb,0,none⟩,L,rA (bJ f a b) o⟩]))++[oI bp 238 [(vI a.vars),(vI a.start),(.slice j.nb a.next.length j.nc),(.slice j.fb a.aV.length j.fc),(vI b.vars),(vI b.start),(.slice k.nb b.next.length k.nc),(.slice k.fb b.aV.length k.fc),(.slice qb ((da (bJ f a b) (i+1)).length) qc),(.map (some m))],aq qb qc 234 2 (lw b.next.length (da (bJ f a b) (i+1))),dz eH (fun n:Nat=>Value.int .i64 (n:Int)) m (pmap b.next.length (da (bJ f a b) (i+1)))])) (by rw[hvq,hbq];exact Sub.fold [aq pF kn 56 1 ((dl qs)++[(.slice (aD rb) L L)]),aq nF lY 4 1 ((cE fs)++[.bool (f (dD a (o/b.next.length)) (dD b (o%b.next.length)))]),oI z7 25 [(vI a.vars),(vI 0),(.slice pF (n1+1) kn),(.slice nF (n2+1) lY)],oI z6 227 [(.pointer (aD bp))],oI z5 27 [(vI 0)],oI z4 25 [(vI 0),(vI 0),nS,nS],oI z3 197 [(.func (.func g) #[] #[])],oI z2 25 (dC b k),oI z1 25 (dC a j)] (aq (aD rb) L 3 1 (ints (rA (bJ f a b) o))) [oI bp 238 [(vI a.vars),(vI a.start),(.slice j.nb a.next.length j.nc),(.slice j.fb a.aV.length j.fc),(vI b.vars),(vI b.start),(.slice k.nb b.next.length k.nc),(.slice k.fb b.aV.length k.fc),(.slice qb ((da (bJ f a b) (i+1)).length) qc),(.map (some m))],aq qb qc 234 2 (lw b.next.length (da (bJ f a b) (i+1))),dz eH (fun n:Nat=>Value.int .i64 (n:Int)) m (pmap b.next.length (da (bJ f a b) (i+1)))] (ce 3 qs) _ (yW 3 qs ⟨some ⟨rb,0,none⟩,L,rA (bJ f a b) o⟩)) ?_
  refine cy ?_
  refine .inl ⟨F,_,F,pF,nF,kn,lY,n1+1,n2+1,qs++[⟨some ⟨rb,0,none⟩,L,rA (bJ f a b) o⟩],fs++[f (dD a (o/b.next.length)) (dD b (o%b.next.length))],F,by omega,by omega,by simp[Hw],by simp[qY],?_,?_⟩
  ·rw[take_at Xx,bo]
   show List.map Rec.xs (qs++[_])=_
   rw[bo,show List.map Rec.xs qs=_ from zr];rfl
  ·rw[take_at Xx,bo,mf,←yV (f:=f) ho];rfl
 ·refine⟨none,none,0,0,0,0,[],[],F,F,F,F,F,by simp,by simp⟩
 rintro v O' (⟨N,qbF,qcF,O2,rfl,hN,tR,ry,tS,rz,n1,n2,qs,fs,rfl,hn1,hn2,Hw,qY,zr,mf⟩|hF)
 rotate_left
 ·exact hF.elim
 refine⟨none,_,F,?_⟩
 refine aO ?_
 refine dv (O':=([aq tR tS 56 1 (dl qs),aq ry rz 4 1 (cE fs),oI z7 25 [(vI a.vars),(vI 0),(.slice tR n1 tS),(.slice ry n2 rz)],oI z6 227 [(.pointer (aD bp))],oI z5 27 [(vI 0)],oI z4 25 [(vI 0),(vI 0),nS,nS],oI z3 197 [(.func (.func g) #[] #[])],oI z2 25 (dC b k),oI z1 25 (dC a j)]++ce 3 qs)) (cj (List.sublist_append_left _ _)) ?_
 have ZW:=Fe va vb hv hN
 have Sj:(order (bJ f a b)).length=N:=by rw[ZW];exact hN
 have e1:nums qs=(ek (bJ f a b)).next:=by rw[zr,←Sj,List.take_length];exact(rT _).symm
 have e2:fs=(ek (bJ f a b)).aV:=by rw[mf,←Sj,List.take_length];rfl
 obtain rfl:n1=(ek (bJ f a b)).next.length:=by rw[rT,ar];omega
 obtain rfl:n2=(ek (bJ f a b)).aV.length:=by rw[DP,ar];omega
 subst e2
 have vD:=jV (f:=f) va.toVal vb.toVal hv
 have vR:=ud vD hN8
 refine dv (O':=([aq tR tS 56 1 (dl qs),aq ry rz 4 1 (cE (ek (bJ f a b)).aV),oI z7 25 [(vI (ek (bJ f a b)).vars),(vI (ek (bJ f a b)).start),(.slice tR ((ek (bJ f a b)).next.length) tS),(.slice ry ((ek (bJ f a b)).aV.length) rz)],oI z6 227 [(.pointer (aD bp))],oI z5 27 [(vI 0)],oI z4 25 [(vI 0),(vI 0),nS,nS],oI z3 197 [(.func (.func g) #[] #[])],oI z2 25 (dC b k),oI z1 25 (dC a j)]++ce 3 qs)) (by exact Sub.rf) ?_
 refine be (ad (ew 2 cS F bK F F F) (ao F (bm xm (aX fun w1 hI=>(haveI:=ey hI;B2 w1 (ek (bJ f a b)) ⟨tR,tS,ry,rz,qs⟩ (show At w1 (ek (bJ f a b)) ⟨tR,tS,ry,rz,qs⟩from⟨hI.gW (mG 0 F),e1▸hI.US (fun q hq=>am _ (List.mem_map_of_mem (f:=Rec.sM 3) hq)),hI.gW (mG 1 F)⟩) vR (by rw[rT,ar];exact jz hN8 (by decide)) (wS vD))) F ?_)))
 rintro vr O' ⟨N9,rfl,k',rfl,rfl⟩
 refine ad (bG (vs:=_) F F) (ad (bG (vs:=_) F F) (ao F (bV (vs:=(dC (fJ (bJ f a b)) k')) 6 bK F F F F ?_)))
 refine ao F (bV (vs:=[(vI 0)]) 5 iV F F F F ?_)
 refine ae (aN (az ?_))
 refine iA (i:=6) (j:=5) Tryz.results138 cS F bK ow F F F F F F ?_
 exact⟨[dI 56 4 3 (fJ (bJ f a b)) k'],(by exact Sub.k .z),k',F,F⟩
theorem Ew (w:World) [dB Tryz.prog w] (a b:cM) (j k:DK) (ha:At w a j) (hb:At w b k) (va:Valid a) (vb:Valid b) (hv:a.vars=b.vars) (f:Bool→Bool→Bool) (g:Nat) (hf: ∀(base:World) (x y:Bool),eK Tryz.prog base (.func (.func g) #[] #[]) [.bool x,.bool y] [] (fun v O'=>v=.bool (f x y)∧O'=[])) (aaT:4096<(order (bJ f a b)).length):
  cA Tryz.prog 138 [dV a j,dV b k,.func (.func g) #[] #[]] w fun v N=>v=.tuple #[dV Dv ⟨none,0,none,0,[]⟩,vI 10]∧N=[]:=by
 refine aG func138 F ntmps138 F ?_
 have h4:a.next.length*b.next.length≤4096*4096:=Nat.mul_le_mul va.n4 vb.n4
 obtain⟨L,hL⟩: ∃L,2^a.vars.toNat=L:=⟨_,F⟩
 have hw:L≤64:=by rw[←hL];exact va.width
 refine ai (ao F (dE (cs:=(dC a j)) F F (fun z1=>?_)))
 refine ao F (dE (cs:=(dC b k)) F F (fun z2=>?_))
 refine ao F (dE (cs:=[(.func (.func g) #[] #[])]) F F (fun z3=>?_))
 refine ao F (bu bK F (fun z4=>?_))
 refine ao F (bu iV F (fun z5=>?_))
 refine ae (ai (ad (ew 4 cS F bK F F F) (ad (ew 3 cS F bK F F F) (ao F (bm EQ (aX fun w1 hI=>(haveI:=ey hI;GJ w1 a b j k (hI.oP ha) (hI.oP hb) va vb hv)) F ?_)))))
 rintro vr O' ⟨N,rfl,bp,qb,m,rfl,rfl⟩
 refine ah F (ad (bG (vs:=_) F F) (ad (bG (vs:=_) F F) (ao F (bu uC F (fun z6=>?_)))))
 refine ao F (bV (vs:=[(.pointer (aD bp))]) 0 uC F F F F ?_)
 refine aj F (ae (aO (ai (ah F (ad (dP F F) (ae (a_ F (aE (ai (ad (bj cS F bl F F) (ad (bn 8 dS F F F F) (ad (cF (cs:=[(vI a.vars),(vI 0),nS,nS]) jj bK (by kernel_rfl)) (ao F (bu bK F (fun z7=>?_)))))))))))))))
 refine ao F (bV (vs:=[(vI a.vars),(vI 0),nS,nS]) 0 bK F F F F ?_)
 refine ae (aO (aO (T.eY 4 1 ?_)))
 refine T.eY 56 1 ?_
 refine be (ad (bn 3 rK F F F F) (ao F (bm Lb (aX fun w1 hI=>(haveI:=ey hI;L0 w1 bp)) F ?_)))
 rintro vr O' ⟨N,rfl,bP,rfl,rfl⟩
 refine ae (aU ?_)
 refine T.rangeFunc (first:=[]) (gv:=[(.pointer (aD bP))]) F Lc (fun yl yq Tk=>?_)
 refine cd.mono (cd.sub (O':=oI bP 227 [(.pointer (aD bp))]::oI bp 238 [(vI a.vars),(vI a.start),(.slice j.nb a.next.length j.nc),(.slice j.fb a.aV.length j.fc),(vI b.vars),(vI b.start),(.slice k.nb b.next.length k.nc),(.slice k.fb b.aV.length k.fc),(.slice (aD qb) ([a.start.toNat*b.next.length+b.start.toNat].length) 1),(.map (some m))]::aq (aD qb) 1 234 2 (lw b.next.length [a.start.toNat*b.next.length+b.start.toNat])::dz eH (fun n:Nat=>Value.int .i64 (n:Int)) m (pmap b.next.length [a.start.toNat*b.next.length+b.start.toNat])::(dR yl (lp yq none)::[aq none 0 56 1 (dl []),aq none 0 4 1 (cE []),oI z7 25 [(vI a.vars),(vI 0),nS,nS],oI z6 227 [(.pointer (aD bp))],oI z5 27 [(vI 0)],oI z4 25 [(vI 0),(vI 0),nS,nS],oI z3 197 [(.func (.func g) #[] #[])],oI z2 25 (dC b k),oI z1 25 (dC a j)])) (aC [1,5,5,5,0,0,0,0,0,0,0,0,0,0] F) (L3 w f a b j k ha hb va vb hv L hL bP bp m (aD qb) 1 (.func (.yield yl) #[] #[]) (fun i O=> ∃(tR ry:Option Addr) (tS rz n1 n2:Nat) (qs:List Rec) (fs:List Bool),O=dR yl (lp yq none)::([aq tR tS 56 1 (dl qs),aq ry rz 4 1 (cE fs),oI z7 25 [(vI a.vars),(vI 0),(.slice tR n1 tS),(.slice ry n2 rz)],oI z6 227 [(.pointer (aD bp))],oI z5 27 [(vI 0)],oI z4 25 [(vI 0),(vI 0),nS,nS],oI z3 197 [(.func (.func g) #[] #[])],oI z2 25 (dC b k),oI z1 25 (dC a j)]++(ce 3 qs))∧n1=i∧n2=i∧qs.length=i∧fs.length=i∧nums qs=((order (bJ f a b)).take i).map (rA (bJ f a b))∧fs=((order (bJ f a b)).take i).map (dD (bJ f a b))∧(da (bJ f a b) i).length≤4096) (fun O=>O=dR yl (lp yq (some .ret))::[oI z5 27 [(vI 10)],oI z4 25 [(vI 0),(vI 0),nS,nS]]) ?_ _ ?_)) ?_
 ·intro i o qb qc rb O hq hJ
  obtain⟨tR,ry,tS,rz,n1,n2,qs,fs,rfl,hn1,hn2,Hw,qY,zr,mf,Fj⟩:=hJ
  refine eK.yield Tk F F ?_
  refine dv (O':=([aq tR tS 56 1 (dl qs),aq ry rz 4 1 (cE fs),oI z7 25 [(vI a.vars),(vI 0),(.slice tR n1 tS),(.slice ry n2 rz)],oI z6 227 [(.pointer (aD bp))],oI z5 27 [(vI 0)],oI z4 25 [(vI 0),(vI 0),nS,nS],oI z3 197 [(.func (.func g) #[] #[])],oI z2 25 (dC b k),oI z1 25 (dC a j),oI bp 238 [(vI a.vars),(vI a.start),(.slice j.nb a.next.length j.nc),(.slice j.fb a.aV.length j.fc),(vI b.vars),(vI b.start),(.slice k.nb b.next.length k.nc),(.slice k.fb b.aV.length k.fc),(.slice qb ((da (bJ f a b) (i+1)).length) qc),(.map (some m))],aq qb qc 234 2 (lw b.next.length (da (bJ f a b) (i+1))),dz eH (fun n:Nat=>Value.int .i64 (n:Int)) m (pmap b.next.length (da (bJ f a b) (i+1))),aq (aD rb) L 3 1 (ints (rA (bJ f a b) o))]++ce 3 qs)) (by exact gK [aq tR tS 56 1 (dl qs),aq ry rz 4 1 (cE fs),oI z7 25 [(vI a.vars),(vI 0),(.slice tR n1 tS),(.slice ry n2 rz)],oI z6 227 [(.pointer (aD bp))],oI z5 27 [(vI 0)],oI z4 25 [(vI 0),(vI 0),nS,nS],oI z3 197 [(.func (.func g) #[] #[])],oI z2 25 (dC b k),oI z1 25 (dC a j)] _ (ce 3 qs)) ?_
  have SH:=ke (f:=f) va vb hv i
  have Yf:=(List.getElem?_eq_some_iff.1 hq).1
  have ho:=(kq (f:=f) va vb hv i).2 o (bS hq)
  obtain⟨hs,ht⟩:=nW ho
  have Xx:=IQ hq (by rw[jl];omega)
  have Yn:(cE a.aV)[o/b.next.length]? =some (.bool (dD a (o/b.next.length))):=by
   have hl:o/b.next.length<a.aV.length:=by rw[va.fin];exact hs
   rw[iy hl];unfold dD;rw[aw,ap hl];rfl
  have xJ:(cE b.aV)[o%b.next.length]? =some (.bool (dD b (o%b.next.length))):=by
   have hl:o%b.next.length<b.aV.length:=by rw[vb.fin];exact ht
   rw[iy hl];unfold dD;rw[aw,ap hl];rfl
  have Dw:(rA (bJ f a b) o).length=L:=by unfold rA;rw[ar,nR];exact hL
  have hvq:dl (qs++[⟨some ⟨rb,0,none⟩,L,rA (bJ f a b) o⟩])=dl qs++[.slice (aD rb) L L]:=by simp[Rec.val,Dw]
  have hbq:cE (fs++[f (dD a (o/b.next.length)) (dD b (o%b.next.length))])=cE fs++[.bool (f (dD a (o/b.next.length)) (dD b (o%b.next.length)))]:=by simp
  have aaS:=ke (f:=f) va vb hv (i+1)
  refine ai (ao F (bu gY F (fun z8=>?_)))
  refine ao F (bV (vs:=[vN (o/b.next.length),vN (o%b.next.length)]) 0 gY F F F F ?_)
  refine ae (be (aj F (ae (aU (aO (ai (ad (bn 4 rK F F F F) (ad (bf F) (ad (bj oK F pm F F) (ad (bn 10 l9 F F F F) (ad (cP l9 F) (ad (gH F F) (ae (aP F (fun hc=>?_) (fun hc=>?_)))))))))))))))
  ·have qk:(da (bJ f a b) (i+1)).length>4096:=by omega
   refine ai (ad (cF jj bK F) (ao F (bV (vs:=[(vI 0),(vI 0),nS,nS]) 6 bK F F F F ?_)))
   refine ao F (bV (vs:=[(vI 10)]) 5 iV F F F F ?_)
   refine ef (O':=[oI z5 27 [(vI 10)],oI z4 25 [(vI 0),(vI 0),nS,nS]]) (by exact Sub.d (.d (.d (.d (.d (.k (.k .z))))))) ?_
   refine ae (aN ?_)
   exact .inr ⟨F,F⟩
  have ql: ¬(da (bJ f a b) (i+1)).length>4096:=by omega
  refine aE ?_
  refine T.ds [oI z8 234 [vN (o/b.next.length),vN (o%b.next.length)],oI z7 25 [(vI a.vars),(vI 0),(.slice tR n1 tS),(.slice ry n2 rz)],oI z6 227 [(.pointer (aD bp))],oI z5 27 [(vI 0)],oI z4 25 [(vI 0),(vI 0),nS,nS],oI z3 197 [(.func (.func g) #[] #[])],oI z2 25 (dC b k),oI z1 25 (dC a j),oI bp 238 [(vI a.vars),(vI a.start),(.slice j.nb a.next.length j.nc),(.slice j.fb a.aV.length j.fc),(vI b.vars),(vI b.start),(.slice k.nb b.next.length k.nc),(.slice k.fb b.aV.length k.fc),(.slice qb ((da (bJ f a b) (i+1)).length) qc),(.map (some m))]] [(0,0),(1,0),(2,0),(5,0),(6,0),(7,0),(8,0),(9,0),(10,0),(11,0),(12,0),(13,0),(14,0),(15,0),(16,0),(17,0),(18,0),(19,0),(3,1),(4,1),(23,0),(20,1),(21,1),(22,1),(24,2),(25,2),(26,2)] (by exact Sub.k (.d (.d (.k (.k (.k (.k (.k (.k (.k (.k .z))))))))))) ?_
  refine au F (bj cS F fa F F) (au F (bn 1 eI F F F F) (au F (aK F) (au F (bj cS F dy F F) (au F (bn 1 eu F F F F) (au F (bn 5 QD F F F F) (au F (bj cS F dy F F) (au F (bn 7 eu F F F F) (au F (bj nq F bl F F) (au F (bn 0 dS F F F F) (au F (dZ (i:=(o/b.next.length)) eu fw F F (aJ ha.aV) (by rw[va.fin];exact hs) (by rw[ar,va.fin];exact hs)) (au F (c_ Bh F F (aJ ha.aV) Yn) (au F (bj cS F dy F F) (au F (bn 6 eu F F F F) (au F (bj nq F bl F F) (au F (bn 0 dS F F F F) (au F (dZ (i:=(o%b.next.length)) eu fw F F (aJ hb.aV) (by rw[vb.fin];exact ht) (by rw[ar,vb.fin];exact ht)) (au F (c_ Bh F F (aJ hb.aV) xJ) ?_)))))))))))))))))
  refine cx F F (cO (v:=(.slice (aD rb) L L)) eI cU F F F (fun z9=>⟨by exact Sub.d (.k (.d (.d (.k (.k (.k (.k (.k (.k (.k (.k .z))))))))))),?_⟩))
  refine cx F F (dh 2 eI eI cU F F F F (by simp;omega) (by decide) (Src.row (j:=0) F (by simp)) (by simp[fu]) (by omega) (by decide) (by decide) (fun pF kn=>⟨by exact Sub.d (.k (.d (.d (.k (.k (.k (.k (.k (.k (.k (.k .z))))))))))),?_⟩))
  refine au F (bj cS F fa F F) ?_
  have B_:=eK.under (B:=([aq (aD z9) 1 56 1 [(.slice (aD rb) L L)],oI z8 234 [vN (o/b.next.length),vN (o%b.next.length)],aq pF kn 56 1 ((dl qs)++[(.slice (aD rb) L L)]),aq ry rz 4 1 (cE fs),oI z7 25 [(vI a.vars),(vI 0),(.slice tR n1 tS),(.slice ry n2 rz)],oI z6 227 [(.pointer (aD bp))],oI z5 27 [(vI 0)],oI z4 25 [(vI 0),(vI 0),nS,nS],oI z3 197 [(.func (.func g) #[] #[])],oI z2 25 (dC b k),oI z1 25 (dC a j),oI bp 238 [(vI a.vars),(vI a.start),(.slice j.nb a.next.length j.nc),(.slice j.fb a.aV.length j.fc),(vI b.vars),(vI b.start),(.slice k.nb b.next.length k.nc),(.slice k.fb b.aV.length k.fc),(.slice qb ((da (bJ f a b) (i+1)).length) qc),(.map (some m))],aq qb qc 234 2 (lw b.next.length (da (bJ f a b) (i+1))),dz eH (fun n:Nat=>Value.int .i64 (n:Int)) m (pmap b.next.length (da (bJ f a b) (i+1))),aq (aD rb) L 3 1 (ints (rA (bJ f a b) o))]++ce 3 qs)) (O:=([aq (aD z9) 1 56 1 [(.slice (aD rb) L L)],oI z8 234 [vN (o/b.next.length),vN (o%b.next.length)],aq pF kn 56 1 ((dl qs)++[(.slice (aD rb) L L)]),aq ry rz 4 1 (cE fs),oI z7 25 [(vI a.vars),(vI 0),(.slice tR n1 tS),(.slice ry n2 rz)],oI z6 227 [(.pointer (aD bp))],oI z5 27 [(vI 0)],oI z4 25 [(vI 0),(vI 0),nS,nS],oI z3 197 [(.func (.func g) #[] #[])],oI z2 25 (dC b k),oI z1 25 (dC a j),oI bp 238 [(vI a.vars),(vI a.start),(.slice j.nb a.next.length j.nc),(.slice j.fb a.aV.length j.fc),(vI b.vars),(vI b.start),(.slice k.nb b.next.length k.nc),(.slice k.fb b.aV.length k.fc),(.slice qb ((da (bJ f a b) (i+1)).length) qc),(.map (some m))],aq qb qc 234 2 (lw b.next.length (da (bJ f a b) (i+1))),dz eH (fun n:Nat=>Value.int .i64 (n:Int)) m (pmap b.next.length (da (bJ f a b) (i+1))),aq (aD rb) L 3 1 (ints (rA (bJ f a b) o))]++(ce 3 qs))) (hf w (dD a (o/b.next.length)) (dD b (o%b.next.length))) (by exact Sub.rf)
  refine cx F F (fh B_ F F ?_)
  clear B_
  rintro vr O' ⟨A1,rfl,rfl,rfl⟩
  refine⟨by exact Sub.d (.k (.d (.d (.k (.k (.k (.k (.k (.k (.k (.k .z))))))))))),?_⟩
  refine cx F F (cO (v:=.bool (f (dD a (o/b.next.length)) (dD b (o%b.next.length)))) eu fw F F F (fun z12=>⟨by exact Sub.d (.d (.k (.d (.d (.k (.k (.k (.k (.k (.k (.k (.k .z)))))))))))),?_⟩))
  refine cx F F (dh 4 eu eu fw F F F F (by simp;omega) (by decide) (Src.row (j:=0) F (by simp)) (by simp[fu]) (by omega) (by decide) (by decide) (fun nF lY=>⟨by exact Sub.d (.d (.k (.d (.d (.k (.k (.k (.k (.k (.k (.k (.k .z)))))))))))),?_⟩))
  refine cu F F (bV (vs:=[(.slice pF (n1+1) kn)]) 5 fa F F F F ?_)
  refine cu F F (eO F F (bj cS F dy F F) ?_)
  refine cu F F (bV (vs:=[(.slice nF (n2+1) lY)]) 5 dy F F F F ?_)
  refine eW (O':=([aq pF kn 56 1 ((dl qs)++[(.slice (aD rb) L L)]),aq nF lY 4 1 ((cE fs)++[.bool (f (dD a (o/b.next.length)) (dD b (o%b.next.length)))]),oI z7 25 [(vI a.vars),(vI 0),(.slice pF (n1+1) kn),(.slice nF (n2+1) lY)],oI z6 227 [(.pointer (aD bp))],oI z5 27 [(vI 0)],oI z4 25 [(vI 0),(vI 0),nS,nS],oI z3 197 [(.func (.func g) #[] #[])],oI z2 25 (dC b k),oI z1 25 (dC a j),aq (aD rb) L 3 1 (ints (rA (bJ f a b) o)),oI bp 238 [(vI a.vars),(vI a.start),(.slice j.nb a.next.length j.nc),(.slice j.fb a.aV.length j.fc),(vI b.vars),(vI b.start),(.slice k.nb b.next.length k.nc),(.slice k.fb b.aV.length k.fc),(.slice qb ((da (bJ f a b) (i+1)).length) qc),(.map (some m))],aq qb qc 234 2 (lw b.next.length (da (bJ f a b) (i+1))),dz eH (fun n:Nat=>Value.int .i64 (n:Int)) m (pmap b.next.length (da (bJ f a b) (i+1)))]++ce 3 qs)) (by exact Sub.d (.d (.d (.k (.k (.k (.k (.k (.k (.k (.k (.k (.eQ [oI bp 238 [(vI a.vars),(vI a.start),(.slice j.nb a.next.length j.nc),(.slice j.fb a.aV.length j.fc),(vI b.vars),(vI b.start),(.slice k.nb b.next.length k.nc),(.slice k.fb b.aV.length k.fc),(.slice qb ((da (bJ f a b) (i+1)).length) qc),(.map (some m))],aq qb qc 234 2 (lw b.next.length (da (bJ f a b) (i+1))),dz eH (fun n:Nat=>Value.int .i64 (n:Int)) m (pmap b.next.length (da (bJ f a b) (i+1)))] _ (.k (.k (.k .rf)))))))))))))))) ?_
  refine eW (O':=(([aq pF kn 56 1 (dl (qs++[⟨some ⟨rb,0,none⟩,L,rA (bJ f a b) o⟩])),aq nF lY 4 1 (cE (fs++[f (dD a (o/b.next.length)) (dD b (o%b.next.length))])),oI z7 25 [(vI a.vars),(vI 0),(.slice pF (n1+1) kn),(.slice nF (n2+1) lY)],oI z6 227 [(.pointer (aD bp))],oI z5 27 [(vI 0)],oI z4 25 [(vI 0),(vI 0),nS,nS],oI z3 197 [(.func (.func g) #[] #[])],oI z2 25 (dC b k),oI z1 25 (dC a j)]++ce 3 (qs++[⟨some ⟨rb,0,none⟩,L,rA (bJ f a b) o⟩]))++[oI bp 238 [(vI a.vars),(vI a.start),(.slice j.nb a.next.length j.nc),(.slice j.fb a.aV.length j.fc),(vI b.vars),(vI b.start),(.slice k.nb b.next.length k.nc),(.slice k.fb b.aV.length k.fc),(.slice qb ((da (bJ f a b) (i+1)).length) qc),(.map (some m))],aq qb qc 234 2 (lw b.next.length (da (bJ f a b) (i+1))),dz eH (fun n:Nat=>Value.int .i64 (n:Int)) m (pmap b.next.length (da (bJ f a b) (i+1)))])) (by rw[hvq,hbq];exact Sub.fold [aq pF kn 56 1 ((dl qs)++[(.slice (aD rb) L L)]),aq nF lY 4 1 ((cE fs)++[.bool (f (dD a (o/b.next.length)) (dD b (o%b.next.length)))]),oI z7 25 [(vI a.vars),(vI 0),(.slice pF (n1+1) kn),(.slice nF (n2+1) lY)],oI z6 227 [(.pointer (aD bp))],oI z5 27 [(vI 0)],oI z4 25 [(vI 0),(vI 0),nS,nS],oI z3 197 [(.func (.func g) #[] #[])],oI z2 25 (dC b k),oI z1 25 (dC a j)] (aq (aD rb) L 3 1 (ints (rA (bJ f a b) o))) [oI bp 238 [(vI a.vars),(vI a.start),(.slice j.nb a.next.length j.nc),(.slice j.fb a.aV.length j.fc),(vI b.vars),(vI b.start),(.slice k.nb b.next.length k.nc),(.slice k.fb b.aV.length k.fc),(.slice qb ((da (bJ f a b) (i+1)).length) qc),(.map (some m))],aq qb qc 234 2 (lw b.next.length (da (bJ f a b) (i+1))),dz eH (fun n:Nat=>Value.int .i64 (n:Int)) m (pmap b.next.length (da (bJ f a b) (i+1)))] (ce 3 qs) _ (yW 3 qs ⟨some ⟨rb,0,none⟩,L,rA (bJ f a b) o⟩)) ?_
  refine cy ?_
  refine .inl ⟨F,_,F,pF,nF,kn,lY,n1+1,n2+1,qs++[⟨some ⟨rb,0,none⟩,L,rA (bJ f a b) o⟩],fs++[f (dD a (o/b.next.length)) (dD b (o%b.next.length))],F,by omega,by omega,by simp[Hw],by simp[qY],?_,?_,by omega⟩
  ·rw[take_at Xx,bo]
   show List.map Rec.xs (qs++[_])=_
   rw[bo,show List.map Rec.xs qs=_ from zr];rfl
  ·rw[take_at Xx,bo,mf,←yV (f:=f) ho];rfl
 ·refine⟨none,none,0,0,0,0,[],[],F,F,F,F,F,by simp,by simp,by simp[da]⟩
 rintro v O' (⟨N,qbF,qcF,O2,rfl,hN,tR,ry,tS,rz,n1,n2,qs,fs,rfl,hn1,hn2,Hw,qY,zr,mf,Fj⟩|rfl)
 ·exact absurd aaT (by rw[Fe va vb hv hN];omega)
 refine⟨some .ret,_,F,?_⟩
 refine az ?_
 refine iA (i:=1) (j:=0) Tryz.results138 cS F bK ow F F F F F F ?_
 exact⟨[],Sub.z,F,F⟩
end Go.Proofs.YtgdbfideeeegmaaGreatDoor

namespace Go.Proofs.YtgdbfideeeegmaaGreatDoor
open Go.Lx Go.RowKit _root_.Go.Proofs.Tryz
set_option maxRecDepth 20000 in
theorem L4 (w:World) [dB Tryz.prog w] (a b:cM) (j k:DK) (ha:At w a j) (hb:At w b k) (GI:a.next.length<9223372036854775807) (uQ: ∀r∈a.next,r.length<9223372036854775807) (uR:a.aV.length<9223372036854775807) (SK:b.next.length<9223372036854775807) (LY: ∀r∈b.next,r.length<9223372036854775807) (LZ:b.aV.length<9223372036854775807) (f:Bool→Bool→Bool) (g:Nat) (hf: ∀(base:World) (x y:Bool),eK Tryz.prog base (.func (.func g) #[] #[]) [.bool x,.bool y] [] (fun v O'=>v=.bool (f x y)∧O'=[])) (hN:gQ a b=0→(order (bJ f a b)).length≤4096):
  cA Tryz.prog 138 [dV a j,dV b k,.func (.func g) #[] #[]] w fun v N=> ∃k':DK,v=.tuple #[dV (Is f a b) k',vI (gQ a b:Int)]∧N=[dI 56 4 3 (Is f a b) k']:=by
 by_cases he:gQ a b=0
 ·obtain⟨va,vb,hv⟩:=pW.1 he
  rw[IK he,he]
  exact CA w a b j k ha hb va vb hv f g hf (hN he)
 ·rw[MT he]
  refine cd.dk (g:=fun x=>.tuple #[x,vI (gQ a b:Int)]) ((gg 56 1 (gg 4 1 (E7 w a b j k ha hb GI uQ uR SK LY LZ g he))).mono ?_)
  rintro v N ⟨O2,rfl,O3,rfl,rfl,rfl⟩
  exact⟨none,0,none,0,[],F,F,F⟩
theorem Xy (w:World) [dB Tryz.prog w] (a:cM) (j:DK) (ha:At w a j) (GI:a.next.length<9223372036854775807) (uQ: ∀r∈a.next,r.length<9223372036854775807) (uR:a.aV.length<9223372036854775807) (hN:gQ a a=0→(order (bJ pU a a)).length≤4096):
  cA Tryz.prog 102 [dV a j] w fun v N=> ∃k':DK,v=.tuple #[dV (Is pU a a) k',vI (gQ a a:Int)]∧N=[dI 56 4 3 (Is pU a a) k']:=by
 refine aG func102 F ntmps102 F ?_
 refine ai (ao F (dE (cs:=(dC a j)) F F (fun nP=>?_)))
 refine ao F (bu bK F (fun xy=>?_))
 refine aj F (ae (ai (ad (ew 1 cS F bK F F F) (ad (ew 1 cS F bK F F F) (ao F (bm Ex (aX fun w1 hI=>(haveI:=ey hI;L4 w1 a a j j (hI.oP ha) (hI.oP ha) GI uQ uR GI uQ uR pU 139 Xv hN)) F ?_))))))
 rintro vr O' ⟨N,rfl,k',rfl,rfl⟩
 refine ad (bG (vs:=_) F F) (ad (bG (vs:=_) F F) (ao F (bV (vs:=(dC (Is pU a a) k')) 1 bK F F F F ?_)))
 refine aj F (ae (aN (az ?_)))
 refine jM (vI (gQ a a:Int)) (i:=1) Tryz.results102 cS F bK F F F F ?_
 exact⟨[dI 56 4 3 (Is pU a a) k'],(by exact Sub.k .z),k',F,F⟩
theorem ZK (w:World) [dB Tryz.prog w] (a:cM) (j:DK) (ha:At w a j) (GI:a.next.length<9223372036854775807) (uQ: ∀r∈a.next,r.length<9223372036854775807) (uR:a.aV.length<9223372036854775807):
  cA Tryz.prog 102 [dV a j] w fun v N=> ∃k':DK,v=.tuple #[dV (Is pU a a) k',vI (cX a:Int)]∧N=[dI 56 4 3 (Is pU a a) k']:=by
 have h:=Xy w a j ha GI uQ uR (fun hw=>by
  have hv:=(pW.1 hw).1
  exact bE (pV hv.toVal hv.toVal F hv.toVal F (MS.refl a) (MS.refl a)) hv.n4)
 rwa[uT]at h
end Go.Proofs.YtgdbfideeeegmaaGreatDoor

namespace Go.Proofs.YtgdbfideeeegmaaGreatDoor
open Go.Lx Go.RowKit _root_.Go.Proofs.Tryz
abbrev Yc (T4:Nat):Prop:= ∀(w:World) [dB Tryz.prog w] (cb:Nat) (eb:Option Addr) (en ec vs B L:Nat) (eR:Sl w (aD cb) [.slice eb en ec,vI (vs:Int),vI (B:Int)]) (gq:vs≤6) (hL:2^vs=L) (iN:1≤B) (hB:B≤4096)
  (tr:Key→Nat→Key) (fin:Key→Bool) (start:Key) (Rp:Key→SR→Prop) (r0:SR) (fk fn ff:Value) (HH:Rp start r0) (T5:r0.kL=[]) (vK: ∀k r,Rp k r→fu r.a=true∧fu r.b=true)
  (Cj: ∀w1 k r,Inv w [] w1→Rp k r→(∀it∈r.kL,it.P w1)→eK Tryz.prog w1 fk [(.agg #[r.a,r.b])] [] (fun v O'=>v=str k∧O'=[]))
  (fm: ∀w1 k r x,Inv w [] w1→Rp k r→(∀it∈r.kL,it.P w1)→x<L→eK Tryz.prog w1 fn [(.agg #[r.a,r.b]),.int .u8 (x:Int)] [] (fun v N=> ∃r',v=(.agg #[r'.a,r'.b])∧N=r'.kL∧Rp (tr k x) r'))
  (wQ: ∀w1 k r,Inv w [] w1→Rp k r→(∀it∈r.kL,it.P w1)→eK Tryz.prog w1 ff [(.agg #[r.a,r.b])] [] (fun v O'=>v=.bool (fin k)∧O'=[])),
  dA Tryz.prog w (.iface 163 (.agg #[])) T4 [(d_ (aD cb) 0),(.agg #[r0.a,r0.b]),fk,fn,ff] [] (fun v N=> ∃M k',v=dV M k'∧N=[dI 56 4 3 M k']∧gf (vs:Int) B M (fun u=>fin (u.foldl tr start))∧HI tr L start B) (¬HI tr L start B)
theorem ExB:(let T4:Nat:=154;let ny:Nat:=208;Yc T4)∧(let T4:Nat:=74;let ny:Nat:=122;Yc T4):=by
 refine⟨?_,?_⟩
 have hq1:=func154;have hq2:=ntmps154;have PO:=nH;have Eg:=lG;have NS:=VP;have hq7:=Tryz.results154
 rotate_left
 have hq1:=func74;have hq2:=ntmps74;have PO:=lW;have Eg:=kj;have NS:=VQ;have hq7:=Tryz.results74
 rotate_left
 all_goals
  intro T4 ny w _ cb eb en ec vs B L eR gq hL iN hB tr fin start Rp r0 fk fn ff HH T5 vK Cj fm wQ
  refine dL hq1 F hq2 F ?_
  have RN:L≤64:=by rw[←hL];exact bO (by decide) gq
  obtain⟨Zo,It⟩:=vK _ _ HH
  refine ai (ao F (dE (cs:=[r0.a,r0.b]) F F (fun z1=>?_)))
  refine ao F (bu bK F (fun z2=>?_))
  refine ae (ai (ad (ew 1 PO F Eg F F F) (ao F (cH (m:=1) (parts:=[(0,_)]) (cs:=[r0.a,r0.b]) NS Eg (by decide) (by kernel_rfl) F (fun z3=>?_)))))
  refine aj F (ae (ai (ao F (lz str (fun n:Nat=>Value.int .i64 (n:Int)) (fun m4=>?_)))))
  refine ah F (ad (ew 3 PO F Eg F F F) ?_)
  have qy:=(eo (O:=[dz str (fun n:Nat=>Value.int .i64 (n:Int)) m4 [],aq (aD z3) 1 ny 2 [r0.a,r0.b],oI z2 25 [(vI 0),(vI 0),nS,nS],oI z1 ny [r0.a,r0.b]]) fun w1 hI=>haveI:=ey hI;Cj w1 start r0 hI.mq HH (by rw[T5];simp))
  refine ao F (fh qy F F ?_)
  clear qy
  rintro vr O' ⟨N,rfl,rfl,rfl⟩
  refine ao F (fT (a:=start) (v:=(0:Nat)) 0 iE (gB.string vg) F F F F (by simp) ?_)
  refine ah F (aj F (ae (ai (ah F (ad (bf F) (ad (ck k_ F bl F F (aJ eR) (by first|omega|(simp;done)|(simp;omega)|(simp_all;done)|(simp_all;omega))) (ad (c_ dS F F (aJ eR) F) (ad (cF (cs:=[vN vs,(vI 0),nS,nS]) jj bK (by kernel_rfl)) (ao F (bu bK F (fun z5=>?_)))))))))))
  refine ao F (bV (vs:=[vN vs,(vI 0),nS,nS]) 0 bK F F F F ?_)
  refine ae (aO (ai (aj F (ae (aU (T.eY 4 1 ?_))))))
  refine T.eY 56 1 ?_
  refine dv (O':=[aq (aD z3) 1 ny 2 (eL c2 [r0]),dz str (fun n:Nat=>Value.int .i64 (n:Int)) m4 [start].zipIdx,aq none 0 56 1 (dl []),aq none 0 4 1 (cE []),oI z5 25 [vN vs,(vI 0),nS,nS],oI z2 25 [(vI 0),(vI 0),nS,nS],oI z1 ny [r0.a,r0.b]]++(ce 3 []++jm [r0])) (by rw[show jm [r0]=[] by simp[jm,T5]];exact(aC [4,3,0,0,0,0,0] F)) ?_
  refine dM (fun(s:Nat) ρ O=> ∃(ks:List Key) (qs:List SR) (rq:List Rec) (sb ob fb:Option Addr) (sc oc fc:Nat),O=([aq sb sc ny 2 (eL c2 qs),dz str (fun n:Nat=>Value.int .i64 (n:Int)) m4 ks.zipIdx,aq ob oc 56 1 (dl rq),aq fb fc 4 1 (cE ((ks.take s).map fin)),oI z5 25 [vN vs,(vI 0),(.slice ob s oc),(.slice fb s fc)],oI z2 25 [(vI 0),(vI 0),nS,nS],oI z1 ny [r0.a,r0.b]]++(ce 3 rq++jm qs))∧xA tr L start s=ks∧Ck tr L start ks∧J2 Rp ks qs∧ks.length≤B∧qz tr L ks s (nums rq)∧dt [(0,(d_ (aD cb) 0)),(1,(.agg #[r0.a,r0.b])),(2,fk),(3,fn),(4,ff),(6,(.pointer (aD z1))),(10,(.pointer (aD z2))),(11,(.slice sb qs.length sc)),(12,(.map (some m4))),(13,(.pointer (aD z5))),(14,vN s)] ρ) (fun s=>B-s) 0 ?_ ?_
  ·exact⟨[start],[r0],[],(aD z3),none,none,1,0,0,F,F,Ck.one _ _ _,J2.one HH,by simpa using iN,⟨F,bs _,fun i hi=>absurd hi (by omega),fun i hi=>absurd hi (by omega)⟩,(.of F)⟩
  rintro s ρ O ⟨ks,qs,rq,sb,ob,fb,sc,oc,fc,rfl,n8,hF,hR,NT,hE,hH⟩
  obtain⟨gP,rfl⟩:=hH.elim
  clear hH
  have Hw:=hR.1
  have Dw:rq.length=s:=by have:=hE.len;simpa using this
  have Ms:=hE.le
  refine aO (ai (ah F (ah F (ad (cP NS F) (ad (cR F F) (ae (aP F (fun hc=>?_) (fun hc=>?_))))))))
  ·have qk:s<qs.length:=by omega
   have RP:s<ks.length:=by omega
   refine aE (aO (aU (ai (ah F (ad (bf F) (ad (ck k_ F bl F F (aJ eR) (by first|omega|(simp;done)|(simp;omega)|(simp_all;done)|(simp_all;omega))) (ad (c_ dS F F (aJ eR) F) (ad (bT (nL (v:=vs) F F (by omega)) (v':=vN L) (by rw[hL])) (ao F (cW (m:=L) cI bl F F (by omega) (by omega) (fun z6=>?_)))))))))))
   refine aj F (ae (aO (ai (ah F (ad (cP cI F) (ah F (ae (aU ?_))))))))
   refine dM (fun(x:Nat) ρ O=> ∃(fg:List Key) (io:List SR) (ys:List Int) (tb:Option Addr) (tc:Nat),O=([aq (aD z6) L 3 1 (ints ys),aq tb tc ny 2 (eL c2 io),dz str (fun n:Nat=>Value.int .i64 (n:Int)) m4 fg.zipIdx,aq ob oc 56 1 (dl rq),aq fb fc 4 1 (cE ((ks.take s).map fin)),oI z5 25 [vN vs,(vI 0),(.slice ob s oc),(.slice fb s fc)],oI z2 25 [(vI 0),(vI 0),nS,nS],oI z1 ny [r0.a,r0.b]]++(ce 3 rq++jm io))∧x≤L∧ys.length=L∧Ck tr L start fg∧J2 Rp fg io∧fg.length≤B∧fg=((List.range x).map (tr (ks.getD s []))).foldl add ks∧(∀i,i<x→ys[i]? =some ((ix (tr (ks.getD s []) i) fg:Nat):Int))∧dt [(0,(d_ (aD cb) 0)),(1,(.agg #[r0.a,r0.b])),(2,fk),(3,fn),(4,ff),(6,(.pointer (aD z1))),(10,(.pointer (aD z2))),(11,(.slice tb io.length tc)),(12,(.map (some m4))),(13,(.pointer (aD z5))),(14,vN s),(15,(.slice (aD z6) L L)),(45,vI (L:Int)),(46,vN x)] ρ) (fun x=>L-x) 0 ?_ ?_
   ·exact⟨ks,qs,List.replicate L 0,sb,sc,by simp,bs _,by simp,hF,hR,NT,F,fun i hi=>absurd hi (by omega),(.of F)⟩
   rintro x ρ O ⟨fg,io,ys,tb,tc,rfl,hx,Cl,NU,yr,J3,pO,yJ,hH⟩
   obtain⟨gP,rfl⟩:=hH.elim
   clear hH
   have ur:ks<+:fg:=pO▸gD _ _
   have sh:fg.getD s []=ks.getD s []:=lX ur RP
   have VR:=ur.length_le
   have J4:=yr.1
   have vP:s<io.length:=by omega
   have RQ:=yr.2 s vP
   rw[sh]at RQ
   refine ai (ad (cR F F) (ae (aO (aP F (fun hc=>?_) (fun hc=>?_)))))
   ·have ot:x<L:=by omega
    have J5:x<L:=by omega
    have My:ks.getD s []∈fg:=by rw[←sh,aw,ap (by omega),Option.getD_some];exact aL _
    refine aE (aO (aU (ai (ah F (aj F (ae (ai (ah F (ah F (ah F (ad (dU (i:=s) NS Eg F F (dX (mG 1 F)) vP (by rw[km (f:=c2) (n:=2) (fun _=>rfl)];omega)) (ad (eP (vs:=[io[s].a,io[s].b]) PO F Eg F F (bw _) (dX (mG 1 F)) (PS vP)) (ah F (ad (fS dS fF F (qg (by omega))) ?_))))))))))))))
    have J6:=(eo (O:=([aq (aD z6) L 3 1 (ints ys),aq tb tc ny 2 (eL c2 io),dz str (fun n:Nat=>Value.int .i64 (n:Int)) m4 fg.zipIdx,aq ob oc 56 1 (dl rq),aq fb fc 4 1 (cE ((ks.take s).map fin)),oI z5 25 [vN vs,(vI 0),(.slice ob s oc),(.slice fb s fc)],oI z2 25 [(vI 0),(vI 0),nS,nS],oI z1 ny [r0.a,r0.b]]++(ce 3 rq++jm io))) fun w1 hI=>haveI:=ey hI;fm w1 (ks.getD s []) io[s] x hI.mq RQ (fun it fC=>hI.holds it (am _ (am _ (tv vP fC)))) J5)
    refine ao F (fh J6 F F ?_)
    clear J6
    rintro vr O' ⟨N9,rfl,r9,rfl,rfl,J7⟩
    obtain⟨VS,ZA⟩:=vK _ _ J7
    refine ef (O':=([aq (aD z6) L 3 1 (ints ys),aq tb tc ny 2 (eL c2 io),dz str (fun n:Nat=>Value.int .i64 (n:Int)) m4 fg.zipIdx,aq ob oc 56 1 (dl rq),aq fb fc 4 1 (cE ((ks.take s).map fin)),oI z5 25 [vN vs,(vI 0),(.slice ob s oc),(.slice fb s fc)],oI z2 25 [(vI 0),(vI 0),nS,nS],oI z1 ny [r0.a,r0.b]]++(r9.kL++(ce 3 rq++jm io)))) (by exact fE [] _ r9.kL (ce 3 rq++jm io)) ?_
    refine ao F (bu Eg F (fun z7=>?_))
    refine ao F (vJ (v:=(.agg #[r9.a,r9.b])) (vs:=[r9.a,r9.b]) 0 Eg F F F F (by simp[VS,ZA]) F (by simp[fe]) ?_)
    refine ae (ai (ah F (ah F (ad (ew 0 PO F Eg F F F) ?_))))
    have Ca:=(eo (O:=([oI z7 ny [r9.a,r9.b],aq (aD z6) L 3 1 (ints ys),aq tb tc ny 2 (eL c2 io),dz str (fun n:Nat=>Value.int .i64 (n:Int)) m4 fg.zipIdx,aq ob oc 56 1 (dl rq),aq fb fc 4 1 (cE ((ks.take s).map fin)),oI z5 25 [vN vs,(vI 0),(.slice ob s oc),(.slice fb s fc)],oI z2 25 [(vI 0),(vI 0),nS,nS],oI z1 ny [r0.a,r0.b]]++(r9.kL++(ce 3 rq++jm io)))) fun w1 hI=>haveI:=ey hI;Cj w1 (tr (ks.getD s []) x) r9 hI.mq J7 (fun it fC=>hI.holds it (am _ (aQ _ fC))))
    refine ao F (fh Ca F F ?_)
    clear Ca
    rintro vr O' ⟨N,rfl,rfl,rfl⟩
    refine ad (bT (jD (a:=tr (ks.getD s []) x) iE bl (gB.string vg) F F (mG 3 F)) (v':=(.tuple #[vN (if tr (ks.getD s []) x∈fg then ix (tr (ks.getD s []) x) fg else 0),.bool (decide (tr (ks.getD s []) x∈fg))])) (by rw[kR];generalize tr (ks.getD s []) x=k9;by_cases h9:k9∈fg<;>simp[h9])) (ah F (ad (bG (vs:=_) F F) (ad (bG (vs:=_) F F) (aj F (aj F (ae (aO (ai (ah F (ad (i_ F) (ae (T.cond F (fun hc=>?_) (fun hc=>?_)))))))))))))
    ·have HJ:tr (ks.getD s []) x∉fg:=by simpa using hc
     have nQ:=FM HJ
     refine ai (ah F (ad (cP NS F) (aj F (ae (ai (ah F (ah F (ad (ew 0 PO F Eg F F F) ?_))))))))
     have Cm:=(eo (O:=([oI z7 ny [r9.a,r9.b],aq (aD z6) L 3 1 (ints ys),aq tb tc ny 2 (eL c2 io),dz str (fun n:Nat=>Value.int .i64 (n:Int)) m4 fg.zipIdx,aq ob oc 56 1 (dl rq),aq fb fc 4 1 (cE ((ks.take s).map fin)),oI z5 25 [vN vs,(vI 0),(.slice ob s oc),(.slice fb s fc)],oI z2 25 [(vI 0),(vI 0),nS,nS],oI z1 ny [r0.a,r0.b]]++(r9.kL++(ce 3 rq++jm io)))) fun w1 hI=>haveI:=ey hI;Cj w1 (tr (ks.getD s []) x) r9 hI.mq J7 (fun it fC=>hI.holds it (am _ (aQ _ fC))))
     refine ao F (fh Cm F F ?_)
     clear Cm
     rintro vr O' ⟨N,rfl,rfl,rfl⟩
     refine ah F (ao F (qf (a:=tr (ks.getD s []) x) (v:=io.length) 3 iE (gB.string vg) F F F F (by rw[mN];exact HJ) ?_))
     refine ae (ai (ah F (ad (ew 0 PO F Eg F F F) (ao F (cH (m:=1) (parts:=[(0,_)]) (cs:=[r9.a,r9.b]) NS Eg (by decide) (by kernel_rfl) F (fun z8=>?_))))))
     refine ao F (dh 3 NS NS Eg F F F F (by rw[km (f:=c2) (n:=2) (fun _=>rfl)]) (by decide) (Src.row (j:=0) F (by simp)) (by simp[VS,ZA]) (by omega) (by decide) (by decide) (fun z9 pe=>?_))
     refine aj F (ae (ai (ah F (ah F (ad (bf F) (ad (ck k_ F bl F F (aJ eR) (by first|omega|(simp;done)|(simp;omega)|(simp_all;done)|(simp_all;omega))) (ad (c_ dS F F (aJ eR) F) (ad (lR F F) (ae (aP F (fun hc=>?_) (fun hc=>?_)))))))))))
     ·have VT:io.length≥B:=by omega
      refine be (ad (cF wk AA F) (ad (ra FK F) ?_))
      exact eC F (wl F (fun _=>⟨F,(NU.add My J5).VU (by rw[nQ];simp;omega)⟩))
     have VV: ¬io.length≥B:=by omega
     refine aE (be (ah F (ah F (ah F (ad (dZ (i:=x) cI bl F F (dX (mG 2 F)) (by omega) (by rw[ar];omega)) (ao F (n7 (j:=x) (v:=vI (io.length:Int)) (vs:=[(vI (io.length:Int))]) (cs:=ints ys) 2 bl F F F F F (by simp) F (by first|(simp;omega)|(simp_all;omega)) ?_)))))))
     refine ef (O':=([aq (aD z8) 1 ny 2 [r9.a,r9.b],oI z7 ny [r9.a,r9.b],aq (aD z6) L 3 1 (ints (ys.set x ((ix (tr (ks.getD s []) x) (add fg (tr (ks.getD s []) x)):Nat):Int))),aq z9 pe ny 2 ((eL c2 io)++[r9.a,r9.b]),dz str (fun n:Nat=>Value.int .i64 (n:Int)) m4 (fg.zipIdx++[(tr (ks.getD s []) x,io.length)]),aq ob oc 56 1 (dl rq),aq fb fc 4 1 (cE ((ks.take s).map fin)),oI z5 25 [vN vs,(vI 0),(.slice ob s oc),(.slice fb s fc)],oI z2 25 [(vI 0),(vI 0),nS,nS],oI z1 ny [r0.a,r0.b]]++(r9.kL++(ce 3 rq++jm io)))) (by rw[show fe (ints ys) x [(vI (io.length:Int))]=ints (ys.set x ((ix (tr (ks.getD s []) x) (add fg (tr (ks.getD s []) x)):Nat):Int))from(by rw[nQ,fM HJ,show ix (tr (ks.getD s []) x) [tr (ks.getD s []) x]=0 by simp[ix],Nat.add_zero,←J4];simp[fe])];exact cj (aZ _)) ?_
     refine ae (be (ad (dx (a:=x) (b:=1) F F (by omega)) (ah F (ae ?_))))
     have Eh: ∀y,y<x→tr (ks.getD s []) y∈fg:=fun y hy=>by rw[pO,eN];exact .inr (List.mem_map_of_mem (List.mem_range.2 hy))
     have Ei: ∀i,i<x+1→(ys.set x ((ix (tr (ks.getD s []) x) (add fg (tr (ks.getD s []) x)):Nat):Int))[i]? =some ((ix (tr (ks.getD s []) i) (add fg (tr (ks.getD s []) x)):Nat):Int):=fun i hi=>by
      by_cases e:i=x
      ·subst e;rw[List.getElem?_set_self (by omega)]
      ·rw[List.getElem?_set_ne (fun h=>e h.symm),yJ i (by omega),ig (jE _ _) (Eh i (by omega))]
     have zu:=yr.snoc J7
     rw[←nQ]at zu
     have ZB:=NU.add My J5
     exact⟨x+1,by omega,[aq (aD z6) L 3 1 (ints (ys.set x ((ix (tr (ks.getD s []) x) (add fg (tr (ks.getD s []) x)):Nat):Int))),aq z9 pe ny 2 (eL c2 (io++[r9])),dz str (fun n:Nat=>Value.int .i64 (n:Int)) m4 ((add fg (tr (ks.getD s []) x)).zipIdx),aq ob oc 56 1 (dl rq),aq fb fc 4 1 (cE ((ks.take s).map fin)),oI z5 25 [vN vs,(vI 0),(.slice ob s oc),(.slice fb s fc)],oI z2 25 [(vI 0),(vI 0),nS,nS],oI z1 ny [r0.a,r0.b]]++(ce 3 rq++jm (io++[r9])),(by rw[zw,vi,nQ,show(fg++[tr (ks.getD s []) x]).zipIdx=fg.zipIdx++[(tr (ks.getD s []) x,io.length)] by rw[List.zipIdx_append,J4];simp];exact xB _ _ _ _ _ (by exact Sub.d (.d (.k (.k (.k (.k (.k (.k (.k (.k .z))))))))))),add fg (tr (ks.getD s []) x),io++[r9],_,z9,pe,F,by omega,by simp[Cl],ZB,zu,by rw[nQ];simp;omega,by rw[iW,←pO],Ei,⟨F,F,F,F,F,F,F,(show Value.slice z9 (io.length+1) pe=_ by rw[aF];rfl),F,F,F,F,F,F,trivial⟩⟩
    have HJ:tr (ks.getD s []) x∈fg:=by simpa using hc
    have nQ:=FN HJ
    refine aE (be (ah F (ah F (ah F (ad (dZ (i:=x) cI bl F F (dX (mG 1 F)) (by omega) (by rw[ar];omega)) (ao F (n7 (j:=x) (v:=vN (if tr (ks.getD s []) x∈fg then ix (tr (ks.getD s []) x) fg else 0)) (vs:=[(vN (if tr (ks.getD s []) x∈fg then ix (tr (ks.getD s []) x) fg else 0))]) (cs:=ints ys) 1 bl F F F F F (by simp) F (by first|(simp;omega)|(simp_all;omega)) ?_)))))))
    refine ef (O':=([oI z7 ny [r9.a,r9.b],aq (aD z6) L 3 1 (ints (ys.set x ((ix (tr (ks.getD s []) x) (add fg (tr (ks.getD s []) x)):Nat):Int))),aq tb tc ny 2 (eL c2 io),dz str (fun n:Nat=>Value.int .i64 (n:Int)) m4 fg.zipIdx,aq ob oc 56 1 (dl rq),aq fb fc 4 1 (cE ((ks.take s).map fin)),oI z5 25 [vN vs,(vI 0),(.slice ob s oc),(.slice fb s fc)],oI z2 25 [(vI 0),(vI 0),nS,nS],oI z1 ny [r0.a,r0.b]]++(r9.kL++(ce 3 rq++jm io)))) (by rw[show fe (ints ys) x [(vN (if tr (ks.getD s []) x∈fg then ix (tr (ks.getD s []) x) fg else 0))]=ints (ys.set x ((ix (tr (ks.getD s []) x) (add fg (tr (ks.getD s []) x)):Nat):Int))from(by rw[nQ,aR HJ];simp[fe])];exact cj (aZ _)) ?_
    refine ae (be (ad (dx (a:=x) (b:=1) F F (by omega)) (ah F (ae ?_))))
    have Eh: ∀y,y<x→tr (ks.getD s []) y∈fg:=fun y hy=>by rw[pO,eN];exact .inr (List.mem_map_of_mem (List.mem_range.2 hy))
    have Ei: ∀i,i<x+1→(ys.set x ((ix (tr (ks.getD s []) x) (add fg (tr (ks.getD s []) x)):Nat):Int))[i]? =some ((ix (tr (ks.getD s []) i) (add fg (tr (ks.getD s []) x)):Nat):Int):=fun i hi=>by
     by_cases e:i=x
     ·subst e;rw[List.getElem?_set_self (by omega)]
     ·rw[List.getElem?_set_ne (fun h=>e h.symm),yJ i (by omega),ig (jE _ _) (Eh i (by omega))]
    have zu:=yr
    rw[←nQ]at zu
    exact⟨x+1,by omega,[aq (aD z6) L 3 1 (ints (ys.set x ((ix (tr (ks.getD s []) x) (add fg (tr (ks.getD s []) x)):Nat):Int))),aq tb tc ny 2 (eL c2 io),dz str (fun n:Nat=>Value.int .i64 (n:Int)) m4 ((add fg (tr (ks.getD s []) x)).zipIdx),aq ob oc 56 1 (dl rq),aq fb fc 4 1 (cE ((ks.take s).map fin)),oI z5 25 [vN vs,(vI 0),(.slice ob s oc),(.slice fb s fc)],oI z2 25 [(vI 0),(vI 0),nS,nS],oI z1 ny [r0.a,r0.b]]++(ce 3 rq++jm io),(by rw[nQ];exact fq _ _ _ _ (by exact Sub.d (.k (.k (.k (.k (.k (.k (.k (.k .z)))))))))),add fg (tr (ks.getD s []) x),io,_,tb,tc,F,by omega,by simp[Cl],NU.add My J5,zu,by rw[nQ];exact J3,by rw[iW,←pO],Ei,(.of F)⟩
   have ou: ¬x<L:=by omega
   refine cG ?_
   refine T.ds [aq tb tc ny 2 (eL c2 io),oI z5 25 [vN vs,(vI 0),(.slice ob s oc),(.slice fb s fc)]] [(0,0),(1,0),(2,0),(5,0),(6,0),(7,0),(8,0),(9,0),(10,0),(11,0),(3,1),(4,1),(15,0),(12,1),(13,1),(14,1),(16,2),(17,2),(18,2)] (by exact Sub.d (.k (.d (.d (.d (.k .z)))))) ?_
   refine au F (bj cS F fa F F) (au F (bn 1 eI F F F F) (au F (aK F) (au F (bj cS F dy F F) (au F (bn 1 eu F F F F) (au F (aK F) (au F (aK F) (au F (aK F) (au F (dU (i:=s) NS Eg F F (dX (mG 0 F)) vP (by rw[km (f:=c2) (n:=2) (fun _=>rfl)];omega)) (au F (eP (vs:=[io[s].a,io[s].b]) PO F Eg F F (bw _) (dX (mG 0 F)) (PS vP)) ?_)))))))))
   refine cx F F (cO (v:=(.slice (aD z6) L L)) eI cU F F F (fun yp=>⟨by exact Sub.d (.d (.k (.d (.d (.d (.k .z)))))),?_⟩))
   refine cx F F (dh 4 eI eI cU F F F F (by simp;omega) (by decide) (Src.row (j:=0) F (by simp)) (by simp[fu]) (by omega) (by decide) (by decide) (fun z12 AC=>⟨by exact Sub.d (.d (.k (.d (.d (.d (.k .z)))))),?_⟩))
   refine au F (bj cS F fa F F) ?_
   have Cn:=(eo (O:=([aq (aD yp) 1 56 1 [(.slice (aD z6) L L)],aq (aD z6) L 3 1 (ints ys),aq tb tc ny 2 (eL c2 io),dz str (fun n:Nat=>Value.int .i64 (n:Int)) m4 fg.zipIdx,aq z12 AC 56 1 ((dl rq)++[(.slice (aD z6) L L)]),aq fb fc 4 1 (cE ((ks.take s).map fin)),oI z5 25 [vN vs,(vI 0),(.slice ob s oc),(.slice fb s fc)],oI z2 25 [(vI 0),(vI 0),nS,nS],oI z1 ny [r0.a,r0.b]]++(ce 3 rq++jm io))) fun w1 hI=>haveI:=ey hI;wQ w1 (ks.getD s []) io[s] hI.mq RQ (fun it fC=>hI.holds it (am _ (am _ (tv vP fC)))))
   refine cx F F (fh Cn F F ?_)
   clear Cn
   rintro vr O' ⟨N,rfl,rfl,rfl⟩
   refine⟨by exact Sub.d (.d (.k (.d (.d (.d (.k .z)))))),?_⟩
   refine cx F F (cO (v:=.bool (fin (ks.getD s []))) eu fw F F F (fun Bg=>⟨by exact Sub.d (.d (.d (.k (.d (.d (.d (.k .z))))))),?_⟩))
   refine cx F F (dh 6 eu eu fw F F F F (by simp;omega) (by decide) (Src.row (j:=0) F (by simp)) (by simp[fu]) (by omega) (by decide) (by decide) (fun FJ Co=>⟨by exact Sub.d (.d (.d (.k (.d (.d (.d (.k .z))))))),?_⟩))
   refine cu F F (bV (vs:=[(.slice z12 (s+1) AC)]) 7 fa F F F F ?_)
   refine cu F F (eO F F (bj cS F dy F F) ?_)
   refine cu F F (bV (vs:=[(.slice FJ (s+1) Co)]) 7 dy F F F F ?_)
   refine cy ?_
   have mf:cE ((fg.take (s+1)).map fin)=cE ((ks.take s).map fin)++[.bool (fin (ks.getD s []))]:=by
    rw[aH (by omega:s<fg.length),bo,show fg.take s=ks.take s by obtain⟨t9,rfl⟩:=ur;rw[List.take_append_of_le_length (by omega)],←sh,show fg.getD s []=fg[s] by rw[aw,ap (by omega),Option.getD_some]]
    simp
   refine dv (O':=[aq tb tc ny 2 (eL c2 io),dz str (fun n:Nat=>Value.int .i64 (n:Int)) m4 fg.zipIdx,aq z12 AC 56 1 (dl (rq++[⟨(aD z6),L,ys⟩])),aq FJ Co 4 1 (cE ((fg.take (s+1)).map fin)),oI z5 25 [vN vs,(vI 0),(.slice z12 (s+1) AC),(.slice FJ (s+1) Co)],oI z2 25 [(vI 0),(vI 0),nS,nS],oI z1 ny [r0.a,r0.b]]++(ce 3 (rq++[⟨(aD z6),L,ys⟩])++jm io)) (by
    rw[mf,show dl (rq++[⟨(aD z6),L,ys⟩])=(dl rq)++[(.slice (aD z6) L L)] by simp[Rec.val,Cl],show ce 3 (rq++[⟨(aD z6),L,ys⟩])=ce 3 rq++[aq (aD z6) L 3 1 (ints ys)] by simp[ce,Rec.sM]]
    exact qA [aq tb tc ny 2 (eL c2 io),dz str (fun n:Nat=>Value.int .i64 (n:Int)) m4 fg.zipIdx,aq z12 AC 56 1 ((dl rq)++[(.slice (aD z6) L L)]),aq FJ Co 4 1 ((cE ((ks.take s).map fin))++[.bool (fin (ks.getD s []))]),oI z5 25 [vN vs,(vI 0),(.slice z12 (s+1) AC),(.slice FJ (s+1) Co)],oI z2 25 [(vI 0),(vI 0),nS,nS],oI z1 ny [r0.a,r0.b]] [aq (aD Bg) 1 4 1 [.bool (fin (ks.getD s []))],aq (aD yp) 1 56 1 [(.slice (aD z6) L L)],aq (aD z6) L 3 1 (ints ys),aq tb tc ny 2 (eL c2 io),dz str (fun n:Nat=>Value.int .i64 (n:Int)) m4 fg.zipIdx,aq z12 AC 56 1 ((dl rq)++[(.slice (aD z6) L L)]),aq FJ Co 4 1 ((cE ((ks.take s).map fin))++[.bool (fin (ks.getD s []))]),oI z5 25 [vN vs,(vI 0),(.slice z12 (s+1) AC),(.slice FJ (s+1) Co)],oI z2 25 [(vI 0),(vI 0),nS,nS],oI z1 ny [r0.a,r0.b]] (ce 3 rq) (jm io) (aq (aD z6) L 3 1 (ints ys)) (by exact Sub.d (.d (.eQ [aq (aD z6) L 3 1 (ints ys)] _ (.eQ [aq (aD z6) L 3 1 (ints ys)] _ (.eQ [aq (aD z6) L 3 1 (ints ys)] _ (.eQ [aq (aD z6) L 3 1 (ints ys)] _ (.eQ [aq (aD z6) L 3 1 (ints ys)] _ (.eQ [aq (aD z6) L 3 1 (ints ys)] _ (.eQ [aq (aD z6) L 3 1 (ints ys)] _ (.k .z))))))))))) ?_
   refine be (ah F (ad (dx (a:=s) (b:=1) F F (by omega)) (aj F (ae ?_))))
   have Ej:x=L:=by omega
   have RR:ys=kT tr L fg s:=by
    apply List.ext_getElem?
    intro i
    by_cases hi:i<L
    ·rw[yJ i (by omega)];simp only[kT,sh];simp[hi]
    ·rw[bQ (by omega),bQ (by simp[kT];omega)]
   have Eh: ∀y,y<L→tr (ks.getD s []) y∈fg:=fun y hy=>by rw[pO,eN];exact .inr (List.mem_map_of_mem (List.mem_range.2 (by omega)))
   have Rm:qz tr L fg (s+1) (nums (rq++[⟨(aD z6),L,ys⟩])):=by
    have:=hE.snoc ur RP RR (by rw[sh];exact Eh)
    simpa[nums]using this
   exact⟨s+1,by omega,_,cj (aZ _),fg,io,rq++[⟨(aD z6),L,ys⟩],tb,z12,FJ,tc,AC,Co,F,by rw[xA,n8,pO,Ej],NU,yr,J3,Rm,(.of F)⟩
  have ql: ¬s<qs.length:=by omega
  refine cG ?_
  refine aO ?_
  have PT:s=ks.length:=by omega
  have rH:rq.length=(nums rq).length:=by simp
  obtain⟨W,hW⟩: ∃W,W=Iw vs (nums rq) (ks.map fin):=⟨_,F⟩
  have FO:HasL (vs:Int) ks.length W (fun u=>fin (u.foldl tr start)):=by rw[hW];exact FP gq (by rw[hL];exact hF) (by rw[hL,←PT];exact hE) (by omega)
  have e1:nums rq=W.next:=by rw[hW];rfl
  have e2:(ks.take s).map fin=W.aV:=by rw[hW,bt (by omega)];rfl
  have e3:(vs:Int)=W.vars:=by rw[hW];rfl
  have e4:(0:Int)=W.start:=by rw[hW];rfl
  have e5:s=W.next.length:=by rw[←e1,←rH];omega
  have e6:s=W.aV.length:=by rw[FO.valid.fin,←e5]
  obtain⟨M,hM⟩: ∃m,fJ W=m:=⟨_,F⟩
  have Mz:gf (vs:Int) ks.length M (fun u=>fin (u.foldl tr start)):=hM▸FO.nX
  obtain⟨z9,VW⟩: ∃z:DK,z=⟨ob,oc,fb,fc,rq⟩:=⟨_,F⟩
  refine dv (O':=([aq ob oc 56 1 (dl rq),aq fb fc 4 1 (cE ((ks.take s).map fin)),oI z5 25 [vN vs,(vI 0),(.slice ob s oc),(.slice fb s fc)],oI z2 25 [(vI 0),(vI 0),nS,nS],oI z1 ny [r0.a,r0.b]]++ce 3 rq)) (vj _ _ _ _ (by exact Sub.d (.d (.k (.k (.k (.k (.k .z)))))))) ?_
  refine dv (O':=(([aq ob oc 56 1 (dl rq),aq fb fc 4 1 (cE W.aV)]++ce 3 rq)++[oI z5 25 [(vI W.vars),(vI W.start),(.slice ob W.next.length oc),(.slice fb W.aV.length fc)],oI z2 25 [(vI 0),(vI 0),nS,nS],oI z1 ny [r0.a,r0.b]])) (by rw[←e5,←e6,←e2,←e3,←e4];exact gK [aq ob oc 56 1 (dl rq),aq fb fc 4 1 (cE ((ks.take s).map fin))] (ce 3 rq) [oI z5 25 [vN vs,(vI 0),(.slice ob s oc),(.slice fb s fc)],oI z2 25 [(vI 0),(vI 0),nS,nS],oI z1 ny [r0.a,r0.b]]) ?_
  refine sY (φ:=nums rq=W.next) e1 ?_
  refine dv (O':=[dI 56 4 3 W z9,oI z5 25 (dC W z9),oI z2 25 [(vI 0),(vI 0),nS,nS],oI z1 ny [r0.a,r0.b]]) (by subst VW;exact Sub.rf) ?_
  refine be (ah F (ad (ew 1 cS F bK F F F) (ao F (bm xm (aX fun w1 hI=>(haveI:=ey hI;B2 w1 W z9 (hI.at (k:=z9) (mG 0 F)) FO.valid (by have:=FO.valid.n4;omega) (M:=M) hM)) F ?_))))
  rintro vr O' ⟨N,rfl,k9,rfl,rfl⟩
  refine ad (bG (vs:=_) F F) (ad (bG (vs:=_) F F) ?_)
  have Cp:=fun(w1:World) (hI:Inv w [dI 56 4 3 M k9,dI 56 4 3 W z9,oI z5 25 (dC W z9),oI z2 25 [(vI 0),(vI 0),nS,nS],oI z1 ny [r0.a,r0.b]] w1)=>(haveI:=ey hI;na w1 cb eb en ec vs B (hI.sl eR) M k9 0)
  refine eC F (eV si (dA.pure Cp) F (fun z _=>⟨F,fun _=>z ⟨F,by have:=Mz.len;omega⟩⟩) ?_)
  clear Cp
  rintro vr O' ⟨N,rfl,rfl,rfl,_,yK⟩
  refine ao F (bV (vs:=(dC M k9)) 3 bK F F F F ?_)
  refine ae (aN (az ?_))
  refine cL (i:=3) hq7 cS F bK F F F ?_
  exact⟨[dI 56 4 3 M k9],(by exact Sub.k .z),M,k9,F,F,⟨Mz.toHasL.le yK,Mz.min⟩,Cq hF (PT▸hE) NT⟩
theorem Cr:Yc 154:=ExB.1
end Go.Proofs.YtgdbfideeeegmaaGreatDoor


/- Contracts of functions of the program, and what they answer. Conditions: those each theorem names. -/
import Derived.Test.YtgdbfideeeegmaaGreatDoorA2
import Derived.Test.YtgdbfideeeegmaaGreatDoorA7
import Derived.Test.YtgdbfideeeegmaaGreatDoorA4
import Derived.Test.YtgdbfideeeegmaaGreatDoorA5
import Derived.Test.YtgdbfideeeegmaaGreatDoorA0
set_option linter.unusedSectionVars false
set_option linter.unusedSimpArgs false
set_option linter.unusedVariables false
set_option linter.unnecessarySimpa false
set_option maxHeartbeats 8000000
set_option maxRecDepth 20000
namespace Go.Proofs.YtgdbfideeeegmaaGreatDoor
open Go.Lx Go.RowKit _root_.Go.Proofs.Tryz
theorem pvS (base:World) [dE Tryz.prog base] (f:Bool→Bool→Bool) (a b:cU) (j k:DK) (bp m i o x:Nat) (qb:Option Addr) (qc:Nat) (va:Valid a) (vb:Valid b) (hv:a.vars=b.vars) (hq:(c8 (bI f a b) i)[i]? =some o) (hx:x<2^a.vars.toNat):
  bW Tryz.prog base 219 [.pointer (aD bp),(.agg #[vN ((fm (bI f a b) o x)/b.next.length),vN ((fm (bI f a b) o x)%b.next.length)])] [dF bp (.cells (List.toArray [(vI a.vars),(vI a.start),(.slice j.nb a.next.length j.nc),(.slice j.fb a.aY.length j.fc),(vI b.vars),(vI b.start),(.slice k.nb b.next.length k.nc),(.slice k.fb b.aY.length k.fc),(.slice qb ((kV (bI f a b) i o x).length) qc),(.map (some m))]) 238 (0,0)),aq qb qc 234 2 (lI b.next.length (kV (bI f a b) i o x)),dz eL (fun n:Nat=>Value.int .i64 (n:Int)) m (pmap b.next.length (kV (bI f a b) i o x))] (fun v O'=>v=vN (ix (fm (bI f a b) o x) (order (bI f a b)))∧ ∃Mr Ms,O'=[dF bp (.cells (List.toArray [(vI a.vars),(vI a.start),(.slice j.nb a.next.length j.nc),(.slice j.fb a.aY.length j.fc),(vI b.vars),(vI b.start),(.slice k.nb b.next.length k.nc),(.slice k.fb b.aY.length k.fc),(.slice Mr ((kV (bI f a b) i o (x+1)).length) Ms),(.map (some m))]) 238 (0,0)),aq Mr Ms 234 2 (lI b.next.length (kV (bI f a b) i o (x+1))),dz eL (fun n:Nat=>Value.int .i64 (n:Int)) m (pmap b.next.length (kV (bI f a b) i o (x+1)))]):=by
 have ho:=(kz (f:=f) va vb hv i).2 o (bQ hq)
 have YG:=(List.getElem?_eq_some_iff.1 hq).1
 have Tf:=ko (f:=f) va vb hv i
 have hml:=BE (f:=f) va vb hv (i:=i) ho (Nat.le_of_lt hx)
 have h4:a.next.length*b.next.length≤4096*4096:=Nat.mul_le_mul va.n4 vb.n4
 rw[uS]
 refine(pvC base a b j k bp m (kV (bI f a b) i o x) (fm (bI f a b) o x) qb qc (by omega)).mono ?_
 rintro v O' ⟨rfl,h⟩
 refine⟨?_,h⟩
 rw[←uS,G8 hq (x:=x+1) hx (by rw[jF];omega) (by rw[uS];exact rv.2 (.inr F))]
theorem Mt (base:World) [dE Tryz.prog base] (f:Bool→Bool→Bool) (a b:cU) (j k:DK) (ha:At base a j) (hb:At base b k) (va:Valid a) (vb:Valid b) (hv:a.vars=b.vars) (L:Nat) (hL:2^a.vars.toNat=L) (bx bp m:Nat) (qb0:Option Addr) (qc0:Nat) (yv:Value) (J:Nat→List Lx.Item→Prop) (Q:List Lx.Item→Prop)
  (hy: ∀(i o:Nat) (qb:Option Addr) (qc rb:Nat) (O:List Lx.Item),(c8 (bI f a b) i)[i]? =some o→J i O→eK Tryz.prog base yv [(.agg #[vN (o/b.next.length),vN (o%b.next.length)]),.slice (aD rb) L L] (O++[oI bp 238 [(vI a.vars),(vI a.start),(.slice j.nb a.next.length j.nc),(.slice j.fb a.aY.length j.fc),(vI b.vars),(vI b.start),(.slice k.nb b.next.length k.nc),(.slice k.fb b.aY.length k.fc),(.slice qb ((c8 (bI f a b) (i+1)).length) qc),(.map (some m))],aq qb qc 234 2 (lI b.next.length (c8 (bI f a b) (i+1))),dz eL (fun n:Nat=>Value.int .i64 (n:Int)) m (pmap b.next.length (c8 (bI f a b) (i+1))),aq (aD rb) L 3 1 (ints (rE (bI f a b) o))])
   (fun v O'=>(v=.bool true∧ ∃O2,O'=O2++[oI bp 238 [(vI a.vars),(vI a.start),(.slice j.nb a.next.length j.nc),(.slice j.fb a.aY.length j.fc),(vI b.vars),(vI b.start),(.slice k.nb b.next.length k.nc),(.slice k.fb b.aY.length k.fc),(.slice qb ((c8 (bI f a b) (i+1)).length) qc),(.map (some m))],aq qb qc 234 2 (lI b.next.length (c8 (bI f a b) (i+1))),dz eL (fun n:Nat=>Value.int .i64 (n:Int)) m (pmap b.next.length (c8 (bI f a b) (i+1)))]∧J (i+1) O2)∨(v=.bool false∧Q O')))
  (O:List Lx.Item) (h0:J 0 O):
  bW Tryz.prog base 218 [yv,.pointer (aD bx)] ([oI bx 227 [(.pointer (aD bp))],oI bp 238 [(vI a.vars),(vI a.start),(.slice j.nb a.next.length j.nc),(.slice j.fb a.aY.length j.fc),(vI b.vars),(vI b.start),(.slice k.nb b.next.length k.nc),(.slice k.fb b.aY.length k.fc),(.slice qb0 ((c8 (bI f a b) 0).length) qc0),(.map (some m))],aq qb0 qc0 234 2 (lI b.next.length (c8 (bI f a b) 0)),dz eL (fun n:Nat=>Value.int .i64 (n:Int)) m (pmap b.next.length (c8 (bI f a b) 0))]++O) (fun _ O'=>(∃N qb qc O2,O'=O2++[oI bp 238 [(vI a.vars),(vI a.start),(.slice j.nb a.next.length j.nc),(.slice j.fb a.aY.length j.fc),(vI b.vars),(vI b.start),(.slice k.nb b.next.length k.nc),(.slice k.fb b.aY.length k.fc),(.slice qb ((c8 (bI f a b) N).length) qc),(.map (some m))],aq qb qc 234 2 (lI b.next.length (c8 (bI f a b) N)),dz eL (fun n:Nat=>Value.int .i64 (n:Int)) m (pmap b.next.length (c8 (bI f a b) N))]∧(c8 (bI f a b) N).length=N∧J N O2)∨Q O'):=by
 refine aF func218 F ntmps218 F ?_
 have h4:a.next.length*b.next.length≤4096*4096:=Nat.mul_le_mul va.n4 vb.n4
 have hw:L≤64:=by rw[←hL];exact va.width
 have P2:=ha.rows.1
 have Hr:=hb.rows.1
 refine ai (aj F (ae (aU ?_)))
 refine eF (fun(i:Nat) ρ O=> ∃(qb:Option Addr) (qc:Nat) (O1:List Lx.Item),O=([oI bx 227 [(.pointer (aD bp))],oI bp 238 [(vI a.vars),(vI a.start),(.slice j.nb a.next.length j.nc),(.slice j.fb a.aY.length j.fc),(vI b.vars),(vI b.start),(.slice k.nb b.next.length k.nc),(.slice k.fb b.aY.length k.fc),(.slice qb ((c8 (bI f a b) i).length) qc),(.map (some m))],aq qb qc 234 2 (lI b.next.length (c8 (bI f a b) i)),dz eL (fun n:Nat=>Value.int .i64 (n:Int)) m (pmap b.next.length (c8 (bI f a b) i))]++O1)∧i≤(c8 (bI f a b) i).length∧J i O1∧dv [(0,yv),(1,(.pointer (aD bx))),(3,vN i)] ρ) (fun i=>a.next.length*b.next.length-i) 0 ?_ ?_
 ·exact⟨qb0,qc0,O,F,bn _,h0,⟨F,F,F,trivial⟩⟩
 rintro i ρ O ⟨qb,qc,O1,rfl,Fw,hJ,hH⟩
 obtain⟨gF,rfl⟩:=hH.elim
 clear hH
 have Tf:=ko (f:=f) va vb hv i
 refine aM (ai (ah F (ad (bi 0 rP F F F F) (ad (a8 F) (ad (a_ oR F pz F F) (ad (bi 1 ml F F F F) (ad (cQ ml F) (ad (cT F F) (ae (aP F (fun hc=>?_) (fun hc=>?_)))))))))))
 ·have lE:i<(c8 (bI f a b) i).length:=by omega
  obtain⟨o,hq⟩: ∃o,(c8 (bI f a b) i)[i]? =some o:=⟨_,ap lE⟩
  have ho:=(kz (f:=f) va vb hv i).2 o (bQ hq)
  obtain⟨hs,ht⟩:=n7 ho
  obtain⟨v1,c1,g1,s1⟩:=ha.rows.get hs
  obtain⟨v2,c2,g2,s2⟩:=hb.rows.get ht
  refine aE (aM (aU (ai (ad (bi 0 rP F F F F) (ad (a8 F) (ad (a_ oR F pz F F) (ad (bi 1 ml F F F F) (ah F (ad (dT (i:=i) ml g_ F F (dR (mG 2 F)) lE (by rw[Ao];omega)) (ad (eO (vs:=[vN (o/b.next.length),vN (o%b.next.length)]) ny F g_ F F (br _) (dR (mG 2 F)) (Fp hq)) (ao F (bs g_ F (fun z1=>?_)))))))))))))
  refine ao F (bN (vs:=[vN (o/b.next.length),vN (o%b.next.length)]) 0 g_ F F F F ?_)
  refine ae (ai (ad (bi 1 rP F F F F) (ad (a8 F) (ad (a_ oR F bL F F) (ad (a_ cZ F bj F F) (ad (bi 2 dP F F F F) (ad (bK (nU (v:=a.vars.toNat) F (by show Value.int _ a.vars=_;rw[cR va.v0]) (by have:=va.v6;omega)) (v':=vN L) (by rw[hL])) (ao F (cY (m:=L) cL bj F F (by omega) (by omega) (fun z2=>?_))))))))))
  refine aj F (ae (aM (ai (ah F (ad (cQ cL F) (ah F (ae (aU ?_))))))))
  refine dx (O':=([oI bp 238 [(vI a.vars),(vI a.start),(.slice j.nb a.next.length j.nc),(.slice j.fb a.aY.length j.fc),(vI b.vars),(vI b.start),(.slice k.nb b.next.length k.nc),(.slice k.fb b.aY.length k.fc),(.slice qb ((c8 (bI f a b) i).length) qc),(.map (some m))],aq qb qc 234 2 (lI b.next.length (c8 (bI f a b) i)),dz eL (fun n:Nat=>Value.int .i64 (n:Int)) m (pmap b.next.length (c8 (bI f a b) i)),aq (aD z2) L 3 1 (List.replicate L (vI 0)),oI z1 234 [vN (o/b.next.length),vN (o%b.next.length)],oI bx 227 [(.pointer (aD bp))]]++O1)) (by exact Sub.ew [aq (aD z2) L 3 1 (List.replicate L (vI 0)),oI z1 234 [vN (o/b.next.length),vN (o%b.next.length)],oI bx 227 [(.pointer (aD bp))]] _ (.ew [aq (aD z2) L 3 1 (List.replicate L (vI 0)),oI z1 234 [vN (o/b.next.length),vN (o%b.next.length)],oI bx 227 [(.pointer (aD bp))]] _ (.ew [aq (aD z2) L 3 1 (List.replicate L (vI 0)),oI z1 234 [vN (o/b.next.length),vN (o%b.next.length)],oI bx 227 [(.pointer (aD bp))]] _ (.k (.k (.k .rf)))))) ?_
  refine eF (fun(x:Nat) ρ O=> ∃(Fe:Option Addr) (Ff:Nat) (ys:List Nat),O=([oI bp 238 [(vI a.vars),(vI a.start),(.slice j.nb a.next.length j.nc),(.slice j.fb a.aY.length j.fc),(vI b.vars),(vI b.start),(.slice k.nb b.next.length k.nc),(.slice k.fb b.aY.length k.fc),(.slice Fe ((kV (bI f a b) i o x).length) Ff),(.map (some m))],aq Fe Ff 234 2 (lI b.next.length (kV (bI f a b) i o x)),dz eL (fun n:Nat=>Value.int .i64 (n:Int)) m (pmap b.next.length (kV (bI f a b) i o x)),aq (aD z2) L 3 1 (bS ys),oI z1 234 [vN (o/b.next.length),vN (o%b.next.length)],oI bx 227 [(.pointer (aD bp))]]++O1)∧x≤L∧ys.length=L∧(∀y,y<x→ys[y]? =some (ix (fm (bI f a b) o y) (order (bI f a b))))∧dv [(0,yv),(1,(.pointer (aD bx))),(3,vN i),(4,(.pointer (aD z1))),(5,(.slice (aD z2) L L)),(31,vI (L:Int)),(32,vN x)] ρ) (fun x=>L-x) 0 ?_ ?_
  ·refine⟨qb,qc,List.replicate L 0,?_,bn _,by simp,fun y Pr=>absurd Pr (by omega),(.of F)⟩
   rw[show List.replicate L (Value.int .i64 0)=bS (List.replicate L 0) by simp];rfl
  rintro x ρ O ⟨Fe,Ff,ys,rfl,hx,Cz,yH,hH⟩
  obtain⟨gF,rfl⟩:=hH.elim
  clear hH
  refine ai (ad (cT F F) (ae (aM (aP F (fun hc=>?_) (fun hc=>?_)))))
  ·have acZ:x<L:=by omega
   have Q6:x<2^a.vars.toNat:=by omega
   have Uw:x<2^b.vars.toNat:=by rw[←hv];exact Q6
   obtain⟨t1,_,x1,d1⟩:=va.gY hs Q6
   obtain⟨t2,_,x2,d2⟩:=vb.gY ht Uw
   have yA:=(uf (f:=f) va vb hv ho Q6).1
   have hdm:=Am (n:=b.next.length) (s:=fm a (o/b.next.length) x) t2
   rw[←yA]at hdm
   have OF:(ints a.next[o/b.next.length])[x]? =some (vN (fm (bI f a b) o x/b.next.length)):=by rw[gL x1,d1,hdm.1]
   have NM:(ints b.next[o%b.next.length])[x]? =some (vN (fm (bI f a b) o x%b.next.length)):=by rw[gL x2,d2,hdm.2]
   refine aE (aM (aU (ai (ah F (aj F (ae ?_))))))
   refine r8 [] [oI bp 238 [(vI a.vars),(vI a.start),(.slice j.nb a.next.length j.nc),(.slice j.fb a.aY.length j.fc),(vI b.vars),(vI b.start),(.slice k.nb b.next.length k.nc),(.slice k.fb b.aY.length k.fc),(.slice Fe ((kV (bI f a b) i o x).length) Ff),(.map (some m))],oI z1 234 [vN (o/b.next.length),vN (o%b.next.length)],oI bx 227 [(.pointer (aD bp))]] [(0,0),(1,0),(2,3),(3,3),(4,3),(5,3),(6,3),(7,3),(8,3),(9,3),(10,3),(11,3),(12,3),(13,3),(14,3),(15,3),(16,3),(17,3),(18,3),(19,3),(20,3),(21,3),(22,3),(23,3),(24,3),(25,3),(26,3),(27,3),(28,4),(29,2),(30,2)] mixed (w_ (by kernel_rfl)) (cj (cq _)) (by exact Sub.k (.d (.d (.d (.k (.k .z)))))) (fun _ _ _ _ h=>h) ?_
   refine au F (aN F) (au F (aN F) ?_)
   refine dJ F (bi 2 rP F F F F) ?_
   refine dJ F (bi 2 rP F F F F) ?_
   refine dJ F (a8 F) ?_
   refine dJ F (a_ oR F bL F F) ?_
   refine dJ F (a_ cZ F fz F F) ?_
   refine dJ F (bi 0 e_ F F F F) ?_
   refine dJ F (a_ ny F bj F F) ?_
   refine dJ F (bi 1 dP F F F F) ?_
   refine dJ F (dU (i:=(o/b.next.length)) e_ cV F F (aL ha.outer) hs (by rw[P2];exact hs)) ?_
   refine dJ F (de cL F F (aL ha.outer) g1) ?_
   refine dJ F (aN F) ?_
   refine dJ F (dU (i:=x) cL bj F F (aL s1) x1 (by rw[ar];exact x1)) ?_
   refine dJ F (de dP F F (aL s1) OF) ?_
   refine dJ F (bi 2 rP F F F F) ?_
   refine dJ F (a8 F) ?_
   refine dJ F (a_ oR F bL F F) ?_
   refine dJ F (a_ cZ F fz F F) ?_
   refine dJ F (bi 0 e_ F F F F) ?_
   refine dJ F (a_ ny F bj F F) ?_
   refine dJ F (bi 1 dP F F F F) ?_
   refine dJ F (dU (i:=(o%b.next.length)) e_ cV F F (aL hb.outer) ht (by rw[Hr];exact ht)) ?_
   refine dJ F (de cL F F (aL hb.outer) g2) ?_
   refine dJ F (aN F) ?_
   refine dJ F (dU (i:=x) cL bj F F (aL s2) x2 (by rw[ar];exact x2)) ?_
   refine dJ F (de dP F F (aL s2) NM) ?_
   refine dJ F (cE (cs:=[vN ((fm (bI f a b) o x)/b.next.length),vN ((fm (bI f a b) o x)%b.next.length)]) Gd g_ (by kernel_rfl)) ?_
   have KR:=bW.under (B:=([aq (aD z2) L 3 1 (bS ys),oI z1 234 [vN (o/b.next.length),vN (o%b.next.length)],oI bx 227 [(.pointer (aD bp))]]++O1)) (O:=([oI bp 238 [(vI a.vars),(vI a.start),(.slice j.nb a.next.length j.nc),(.slice j.fb a.aY.length j.fc),(vI b.vars),(vI b.start),(.slice k.nb b.next.length k.nc),(.slice k.fb b.aY.length k.fc),(.slice Fe ((kV (bI f a b) i o x).length) Ff),(.map (some m))],aq Fe Ff 234 2 (lI b.next.length (kV (bI f a b) i o x)),dz eL (fun n:Nat=>Value.int .i64 (n:Int)) m (pmap b.next.length (kV (bI f a b) i o x)),aq (aD z2) L 3 1 (bS ys),oI z1 234 [vN (o/b.next.length),vN (o%b.next.length)],oI bx 227 [(.pointer (aD bp))]]++O1)) (pvS base f a b j k bp m i o x Fe Ff va vb hv hq (by omega)) (by exact Sub.rf)
   refine wS F F (bl TI KR F ?_)
   clear KR
   rintro vr O' ⟨A1,rfl,rfl,qb2,qc2,rfl⟩
   refine⟨by exact Sub.z,?_⟩
   refine b_ F F (d_ F F (dU (i:=x) cL bj F F (dR (mG 3 F))) ?_)
   refine b_ F F (ol (j:=x) (v:=vN (ix (fm (bI f a b) o x) (order (bI f a b)))) (vs:=[(vN (ix (fm (bI f a b) o x) (order (bI f a b))))]) (cs:=bS ys) 3 bj F F F F F (by simp) F (by first|(simp;omega)|(simp_all;omega)) ?_)
   refine e7 (O':=([oI bp 238 [(vI a.vars),(vI a.start),(.slice j.nb a.next.length j.nc),(.slice j.fb a.aY.length j.fc),(vI b.vars),(vI b.start),(.slice k.nb b.next.length k.nc),(.slice k.fb b.aY.length k.fc),(.slice qb2 ((kV (bI f a b) i o (x+1)).length) qc2),(.map (some m))],aq qb2 qc2 234 2 (lI b.next.length (kV (bI f a b) i o (x+1))),dz eL (fun n:Nat=>Value.int .i64 (n:Int)) m (pmap b.next.length (kV (bI f a b) i o (x+1))),aq (aD z2) L 3 1 (bS (ys.set x (ix (fm (bI f a b) o x) (order (bI f a b))))),oI z1 234 [vN (o/b.next.length),vN (o%b.next.length)],oI bx 227 [(.pointer (aD bp))]]++O1)) (by rw[show fh (bS ys) x [(vN (ix (fm (bI f a b) o x) (order (bI f a b))))]=bS (ys.set x (ix (fm (bI f a b) o x) (order (bI f a b))))from by simp[fh]];exact cj (aZ _)) ?_
   refine cw ?_
   refine a7 (ad (dy (a:=x) (b:=1) F F (by omega)) (ah F (ae ?_)))
   refine⟨x+1,by omega,qb2,qc2,ys.set x (ix (fm (bI f a b) o x) (order (bI f a b))),F,by omega,by simp[Cz],fun y Pr=>?_,(.of F)⟩
   by_cases e:y=x
   ·subst e;rw[List.getElem?_set_self (by omega)]
   ·rw[List.getElem?_set_ne (fun h=>e h.symm)];exact yH y (by omega)
  have ac0: ¬x<L:=by omega
  refine cK ?_
  refine aM ?_
  have AP:x=L:=by omega
  have e1:c8 (bI f a b) (i+1)=kV (bI f a b) i o x:=by rw[AP,←hL];exact(yS hq).symm
  have e3:rW (bI f a b) o=ys:=by
   apply List.ext_getElem?
   intro y
   by_cases Pr:y<L
   ·rw[yH y (by omega)]
    have hy8:y<2^(bI f a b).vars.toNat:=by show y<2^a.vars.toNat;omega
    unfold rW
    rw[bq,x3 hy8];rfl
   ·rw[bZ (by rw[nZ];show 2^a.vars.toNat≤y;omega),bZ (by omega)]
  have e2:ints (rE (bI f a b) o)=bS ys:=by unfold rE;rw[e3];simp[Function.comp_def]
  refine dx (O':=([oI bp 238 [(vI a.vars),(vI a.start),(.slice j.nb a.next.length j.nc),(.slice j.fb a.aY.length j.fc),(vI b.vars),(vI b.start),(.slice k.nb b.next.length k.nc),(.slice k.fb b.aY.length k.fc),(.slice Fe ((c8 (bI f a b) (i+1)).length) Ff),(.map (some m))],aq Fe Ff 234 2 (lI b.next.length (c8 (bI f a b) (i+1))),dz eL (fun n:Nat=>Value.int .i64 (n:Int)) m (pmap b.next.length (c8 (bI f a b) (i+1))),aq (aD z2) L 3 1 (ints (rE (bI f a b) o)),oI z1 234 [vN (o/b.next.length),vN (o%b.next.length)],oI bx 227 [(.pointer (aD bp))]]++O1)) (by rw[e1,e2];exact Sub.rf) ?_
  refine a7 (ah F (ad (eu 4 ny F g_ F F F) (ah F ?_)))
  have J2:=eK.under (B:=[oI z1 234 [vN (o/b.next.length),vN (o%b.next.length)],oI bx 227 [(.pointer (aD bp))]]) (O:=([oI bp 238 [(vI a.vars),(vI a.start),(.slice j.nb a.next.length j.nc),(.slice j.fb a.aY.length j.fc),(vI b.vars),(vI b.start),(.slice k.nb b.next.length k.nc),(.slice k.fb b.aY.length k.fc),(.slice Fe ((c8 (bI f a b) (i+1)).length) Ff),(.map (some m))],aq Fe Ff 234 2 (lI b.next.length (c8 (bI f a b) (i+1))),dz eL (fun n:Nat=>Value.int .i64 (n:Int)) m (pmap b.next.length (c8 (bI f a b) (i+1))),aq (aD z2) L 3 1 (ints (rE (bI f a b) o)),oI z1 234 [vN (o/b.next.length),vN (o%b.next.length)],oI bx 227 [(.pointer (aD bp))]]++O1)) (hy i o Fe Ff z2 O1 hq hJ) (gW [])
  refine ao F (eN J2 F F ?_)
  clear J2
  rintro vr O' ⟨A1,rfl,⟨rfl,O2,rfl,UA⟩|⟨rfl,hQ2⟩⟩
  ·refine ad (jh F) ?_
   refine ae (a6 F (aE ?_))
   refine dx (O':=([oI bx 227 [(.pointer (aD bp))],oI bp 238 [(vI a.vars),(vI a.start),(.slice j.nb a.next.length j.nc),(.slice j.fb a.aY.length j.fc),(vI b.vars),(vI b.start),(.slice k.nb b.next.length k.nc),(.slice k.fb b.aY.length k.fc),(.slice Fe ((c8 (bI f a b) (i+1)).length) Ff),(.map (some m))],aq Fe Ff 234 2 (lI b.next.length (c8 (bI f a b) (i+1))),dz eL (fun n:Nat=>Value.int .i64 (n:Int)) m (pmap b.next.length (c8 (bI f a b) (i+1)))]++O2)) (gW [oI z1 234 [vN (o/b.next.length),vN (o%b.next.length)]]) ?_
   refine a7 (ah F (ad (dy (a:=i) (b:=1) F F (by omega)) (aj F (ae ?_))))
   have CV:=(jG (bI f a b) i (i+1) (by omega)).length_le
   exact⟨i+1,by omega,Fe,Ff,O2,F,by omega,UA,⟨F,F,F,trivial⟩⟩
  refine ad (jh F) (ae ?_)
  refine bO F ?_
  refine aK (aA ?_)
  refine qZ.zero Tryz.results218 ?_
  exact⟨A1,cj (List.sublist_append_left _ _),.inr hQ2⟩
 have JX: ¬i<(c8 (bI f a b) i).length:=by omega
 refine cK ?_
 refine aA ?_
 refine qZ.zero Tryz.results218 ?_
 have hN:(c8 (bI f a b) i).length=i:=by omega
 exact⟨O1++[oI bp 238 [(vI a.vars),(vI a.start),(.slice j.nb a.next.length j.nc),(.slice j.fb a.aY.length j.fc),(vI b.vars),(vI b.start),(.slice k.nb b.next.length k.nc),(.slice k.fb b.aY.length k.fc),(.slice qb ((c8 (bI f a b) i).length) qc),(.map (some m))],aq qb qc 234 2 (lI b.next.length (c8 (bI f a b) i)),dz eL (fun n:Nat=>Value.int .i64 (n:Int)) m (pmap b.next.length (c8 (bI f a b) i))],gW [oI bx 227 [(.pointer (aD bp))]],.inl ⟨i,qb,qc,O1,F,hN,hJ⟩⟩
end Go.Proofs.YtgdbfideeeegmaaGreatDoor

namespace Go.Proofs.YtgdbfideeeegmaaGreatDoor
open Go.Lx Go.RowKit _root_.Go.Proofs.Tryz
theorem aa1 (w:World) [dE Tryz.prog w] (d:cU) (k:DK) (h:At w d k) (hb:d.next.length<9223372036854775807) (vY: ∀r∈d.next,r.length<9223372036854775807) (yw:d.aY.length<9223372036854775807) (hn:Valid d→d.next.length<10000):
  cH Tryz.prog 23 [dV d k] w fun v N=> ∃k':DK,v=.tuple #[dV (BA d) k',vI (dD d:Int)]∧N=[dI 56 4 3 (BA d) k']:=
 bW.dk (g:=fun x=>.tuple #[x,vI (dD d:Int)]) (aa2 w d k.nb k.fb k.nc k.fc (dm k.qs) h hb vY yw hn)
theorem Cc (w:World) [dE Tryz.prog w] (d:cU) (k:DK) (h:At w d k) (hv:Valid d) (hn:d.next.length<10000) {M:cU} (hM:js d=M):
  cH Tryz.prog 23 [dV d k] w fun v N=> ∃k':DK,v=.tuple #[dV M k',vI 0]∧N=[dI 56 4 3 M k']:=by
 have h1:=aa1 w d k h (by have:=hv.n4;omega) hv.wJ (by have:=hv.fin;have:=hv.n4;omega) (fun _=>hn)
 rw[Fg hv,hM,eA.2 hv]at h1
 exact h1
theorem aa3 (base:World) (x y:Bool):bW Tryz.prog base 139 [.bool x,.bool y] [] (fun v O'=>v=.bool (pW x y)∧O'=[]):=by
 refine aF func139 F ntmps139 F ?_
 refine ai (aj F (ae (ai (ah F (ad (jh F) (aj F (ae (aK ?_))))))))
 refine aS (.bool (!x)) Tryz.results139 F ?_
 cases x<;>cases y<;>first|exact⟨F,F⟩|(exfalso;simp_all;done)|simp_all[rV,DT,I1,wF,pW]
set_option maxRecDepth 20000 in
theorem XW (base:World) (x y:Bool):eK Tryz.prog base (.func (.func 139) #[] #[]) [.bool x,.bool y] [] (fun v O'=>v=.bool (pW x y)∧O'=[]):=cP (first:=[]) (gr:=[]) TA (aa3 base x y)
theorem aa4 (base:World) (x y:Bool):bW Tryz.prog base 152 [.bool x,.bool y] [] (fun v O'=>v=.bool (rV x y)∧O'=[]):=by
 refine aF func152 F ntmps152 F ?_
 refine ai (aj F (ae (ai (ah F ?_))))
 by_cases XX:x=true
 ·refine ad (aB (aN F) (XX)) ?_
  refine aG F F (aN F) (ad (cA F F) (aj F (ae (aK ?_))))
  refine aS (.bool y) Tryz.results152 F ?_
  cases x<;>cases y<;>first|exact⟨F,F⟩|(exfalso;simp_all;done)|simp_all[rV,DT,I1,wF,pW]
 refine ad (aB (aN F) (Bool.eq_false_iff.2 XX)) (aV F F (ad (cg F F) (aj F (ae (aK ?_)))))
 refine aS (.bool false) Tryz.results152 F ?_
 cases x<;>cases y<;>first|exact⟨F,F⟩|(exfalso;simp_all;done)|simp_all[rV,DT,I1,wF,pW]
set_option maxRecDepth 20000 in
theorem WB (base:World) (x y:Bool):eK Tryz.prog base (.func (.func 152) #[] #[]) [.bool x,.bool y] [] (fun v O'=>v=.bool (rV x y)∧O'=[]):=cP (first:=[]) (gr:=[]) TC (aa4 base x y)
theorem orF (base:World) (x y:Bool):bW Tryz.prog base 151 [.bool x,.bool y] [] (fun v O'=>v=.bool (DT x y)∧O'=[]):=by
 refine aF func151 F ntmps151 F ?_
 refine ai (aj F (ae (ai (ah F ?_))))
 by_cases XX:x=true
 ·refine ad (aB (aN F) (XX)) ?_
  refine aV F F (ad (cA F F) (aj F (ae (aK ?_))))
  refine aS (.bool true) Tryz.results151 F ?_
  cases x<;>cases y<;>first|exact⟨F,F⟩|(exfalso;simp_all;done)|simp_all[rV,DT,I1,wF,pW]
 refine ad (aB (aN F) (Bool.eq_false_iff.2 XX)) (aG F F (aN F) (ad (cg F F) (aj F (ae (aK ?_)))))
 refine aS (.bool y) Tryz.results151 F ?_
 cases x<;>cases y<;>first|exact⟨F,F⟩|(exfalso;simp_all;done)|simp_all[rV,DT,I1,wF,pW]
set_option maxRecDepth 20000 in
theorem Z2 (base:World) (x y:Bool):eK Tryz.prog base (.func (.func 151) #[] #[]) [.bool x,.bool y] [] (fun v O'=>v=.bool (DT x y)∧O'=[]):=cP (first:=[]) (gr:=[]) TB (orF base x y)
theorem Fh (w:World) [dE Tryz.prog w] (a b:cU) (j k:DK) (ha:At w a j) (hb:At w b k) (M_:a.next.length<9223372036854775807) (yN: ∀r∈a.next,r.length<9223372036854775807) (yO:a.aY.length<9223372036854775807) (Ti:b.next.length<9223372036854775807) (Mo: ∀r∈b.next,r.length<9223372036854775807) (Mp:b.aY.length<9223372036854775807) (g:Nat) (he:gU a b≠0):
  cH Tryz.prog 138 [dV a j,dV b k,.func (.func g) #[] #[]] w fun v N=>v=.tuple #[dV DH ⟨none,0,none,0,[]⟩,vI (gU a b:Int)]∧N=[]:=by
 refine aF func138 F ntmps138 F ?_
 refine ai (ao F (dG (cs:=(dC a j)) F F (fun nY=>?_)))
 refine ao F (dG (cs:=(dC b k)) F F (fun xq=>?_))
 refine ao F (dG (cs:=[(.func (.func g) #[] #[])]) F F (fun KK=>?_))
 refine ao F (bs bL F (fun bx4=>?_))
 refine ao F (bs iZ F (fun bx5=>?_))
 refine ae (ai (ad (eu 4 cZ F bL F F F) (ad (eu 3 cZ F bL F F F) (ao F (bl EZ (aX fun w1 hI=>(haveI:=et hI;Mn w1 a b j k (hI.pR ha) (hI.pR hb) M_ yN yO Ti Mo Mp he)) F ?_)))))
 rintro vr O' ⟨N,rfl,rfl,rfl⟩
 refine ah F (ad (bE (vs:=_) F F) (ad (bE (vs:=_) F F) (ao F (bs uF F (fun bx6=>?_)))))
 refine ao F (bN (vs:=[(.pointer none)]) 0 uF F F F F ?_)
 refine aj F (ae (aM (ai (ah F (ad (dQ F F) (ae ?_))))))
 refine bO (ax Value.bool (ay (by omega))) ?_
 refine ai (ad (cE jp bL F) (ah F (ao F (bN (vs:=[(vI 0),(vI 0),nS,nS]) 2 bL F F F F ?_))))
 refine ao F (bN (vs:=[(vI (gU a b:Int))]) 1 iZ F F F F ?_)
 refine ae (aK (aA ?_))
 refine iF (i:=2) (j:=1) Tryz.results138 cZ F bL oD F F F F F F ?_
 exact⟨[],Sub.z,F,F⟩
theorem CM (w:World) [dE Tryz.prog w] (a b:cU) (j k:DK) (ha:At w a j) (hb:At w b k) (va:Valid a) (vb:Valid b) (hv:a.vars=b.vars) (f:Bool→Bool→Bool) (g:Nat) (hf: ∀(base:World) (x y:Bool),eK Tryz.prog base (.func (.func g) #[] #[]) [.bool x,.bool y] [] (fun v O'=>v=.bool (f x y)∧O'=[])) (hN8:(order (bI f a b)).length≤4096):
  cH Tryz.prog 138 [dV a j,dV b k,.func (.func g) #[] #[]] w fun v N=> ∃k':DK,v=.tuple #[dV (ud f a b) k',vI 0]∧N=[dI 56 4 3 (ud f a b) k']:=by
 refine aF func138 F ntmps138 F ?_
 have h4:a.next.length*b.next.length≤4096*4096:=Nat.mul_le_mul va.n4 vb.n4
 obtain⟨L,hL⟩: ∃L,2^a.vars.toNat=L:=⟨_,F⟩
 have hw:L≤64:=by rw[←hL];exact va.width
 refine ai (ao F (dG (cs:=(dC a j)) F F (fun z1=>?_)))
 refine ao F (dG (cs:=(dC b k)) F F (fun z2=>?_))
 refine ao F (dG (cs:=[(.func (.func g) #[] #[])]) F F (fun z3=>?_))
 refine ao F (bs bL F (fun z4=>?_))
 refine ao F (bs iZ F (fun z5=>?_))
 refine ae (ai (ad (eu 4 cZ F bL F F F) (ad (eu 3 cZ F bL F F F) (ao F (bl EZ (aX fun w1 hI=>(haveI:=et hI;GW w1 a b j k (hI.pR ha) (hI.pR hb) va vb hv)) F ?_)))))
 rintro vr O' ⟨N,rfl,bp,qb,m,rfl,rfl⟩
 refine ah F (ad (bE (vs:=_) F F) (ad (bE (vs:=_) F F) (ao F (bs uF F (fun z6=>?_)))))
 refine ao F (bN (vs:=[(.pointer (aD bp))]) 0 uF F F F F ?_)
 refine aj F (ae (aM (ai (ah F (ad (dQ F F) (ae (a6 F (aE (ai (ad (a_ cZ F bj F F) (ad (bi 8 dP F F F F) (ad (cE (cs:=[(vI a.vars),(vI 0),nS,nS]) jp bL (by kernel_rfl)) (ao F (bs bL F (fun z7=>?_)))))))))))))))
 refine ao F (bN (vs:=[(vI a.vars),(vI 0),nS,nS]) 0 bL F F F F ?_)
 refine ae (aM (aM (T.eX 4 1 ?_)))
 refine T.eX 56 1 ?_
 refine a7 (ad (bi 3 rP F F F F) (ao F (bl Lt (aX fun w1 hI=>(haveI:=et hI;Mq w1 bp)) F ?_)))
 rintro vr O' ⟨N,rfl,bP,rfl,rfl⟩
 refine ae (aU ?_)
 refine T.rangeFunc (first:=[]) (gr:=[(.pointer (aD bP))]) F Lu (fun yl yq TW=>?_)
 refine bW.mono (bW.sub (O':=oI bP 227 [(.pointer (aD bp))]::oI bp 238 [(vI a.vars),(vI a.start),(.slice j.nb a.next.length j.nc),(.slice j.fb a.aY.length j.fc),(vI b.vars),(vI b.start),(.slice k.nb b.next.length k.nc),(.slice k.fb b.aY.length k.fc),(.slice (aD qb) ([a.start.toNat*b.next.length+b.start.toNat].length) 1),(.map (some m))]::aq (aD qb) 1 234 2 (lI b.next.length [a.start.toNat*b.next.length+b.start.toNat])::dz eL (fun n:Nat=>Value.int .i64 (n:Int)) m (pmap b.next.length [a.start.toNat*b.next.length+b.start.toNat])::(dF yl (lp yq none)::[aq none 0 56 1 (dm []),aq none 0 4 1 (cG []),oI z7 25 [(vI a.vars),(vI 0),nS,nS],oI z6 227 [(.pointer (aD bp))],oI z5 27 [(vI 0)],oI z4 25 [(vI 0),(vI 0),nS,nS],oI z3 197 [(.func (.func g) #[] #[])],oI z2 25 (dC b k),oI z1 25 (dC a j)])) (aC [1,5,5,5,0,0,0,0,0,0,0,0,0,0] F) (Mt w f a b j k ha hb va vb hv L hL bP bp m (aD qb) 1 (.func (.yield yl) #[] #[]) (fun i O=> ∃(tW rC:Option Addr) (tX rD n1 n2:Nat) (qs:List Rec) (fs:List Bool),O=dF yl (lp yq none)::([aq tW tX 56 1 (dm qs),aq rC rD 4 1 (cG fs),oI z7 25 [(vI a.vars),(vI 0),(.slice tW n1 tX),(.slice rC n2 rD)],oI z6 227 [(.pointer (aD bp))],oI z5 27 [(vI 0)],oI z4 25 [(vI 0),(vI 0),nS,nS],oI z3 197 [(.func (.func g) #[] #[])],oI z2 25 (dC b k),oI z1 25 (dC a j)]++(cd 3 qs))∧n1=i∧n2=i∧qs.length=i∧fs.length=i∧nums qs=((order (bI f a b)).take i).map (rE (bI f a b))∧fs=((order (bI f a b)).take i).map (dr (bI f a b))) (fun _=>False) ?_ _ ?_)) ?_
 ·intro i o qb qc rb O hq hJ
  obtain⟨tW,rC,tX,rD,n1,n2,qs,fs,rfl,hn1,hn2,HF,rL,zy,nF⟩:=hJ
  refine eK.yield TW F F ?_
  refine dx (O':=([aq tW tX 56 1 (dm qs),aq rC rD 4 1 (cG fs),oI z7 25 [(vI a.vars),(vI 0),(.slice tW n1 tX),(.slice rC n2 rD)],oI z6 227 [(.pointer (aD bp))],oI z5 27 [(vI 0)],oI z4 25 [(vI 0),(vI 0),nS,nS],oI z3 197 [(.func (.func g) #[] #[])],oI z2 25 (dC b k),oI z1 25 (dC a j),oI bp 238 [(vI a.vars),(vI a.start),(.slice j.nb a.next.length j.nc),(.slice j.fb a.aY.length j.fc),(vI b.vars),(vI b.start),(.slice k.nb b.next.length k.nc),(.slice k.fb b.aY.length k.fc),(.slice qb ((c8 (bI f a b) (i+1)).length) qc),(.map (some m))],aq qb qc 234 2 (lI b.next.length (c8 (bI f a b) (i+1))),dz eL (fun n:Nat=>Value.int .i64 (n:Int)) m (pmap b.next.length (c8 (bI f a b) (i+1))),aq (aD rb) L 3 1 (ints (rE (bI f a b) o))]++cd 3 qs)) (by exact gN [aq tW tX 56 1 (dm qs),aq rC rD 4 1 (cG fs),oI z7 25 [(vI a.vars),(vI 0),(.slice tW n1 tX),(.slice rC n2 rD)],oI z6 227 [(.pointer (aD bp))],oI z5 27 [(vI 0)],oI z4 25 [(vI 0),(vI 0),nS,nS],oI z3 197 [(.func (.func g) #[] #[])],oI z2 25 (dC b k),oI z1 25 (dC a j)] _ (cd 3 qs)) ?_
  have Tf:=ko (f:=f) va vb hv i
  have YG:=(List.getElem?_eq_some_iff.1 hq).1
  have ho:=(kz (f:=f) va vb hv i).2 o (bQ hq)
  obtain⟨hs,ht⟩:=n7 ho
  have XY:=I9 hq (by rw[jF];omega)
  have YP:(cG a.aY)[o/b.next.length]? =some (.bool (dr a (o/b.next.length))):=by
   have hl:o/b.next.length<a.aY.length:=by rw[va.fin];exact hs
   rw[iB hl];unfold dr;rw[av,ap hl];rfl
  have xG:(cG b.aY)[o%b.next.length]? =some (.bool (dr b (o%b.next.length))):=by
   have hl:o%b.next.length<b.aY.length:=by rw[vb.fin];exact ht
   rw[iB hl];unfold dr;rw[av,ap hl];rfl
  have IK:(rE (bI f a b) o).length=L:=by unfold rE;rw[ar,nZ];exact hL
  have hvq:dm (qs++[⟨some ⟨rb,0,none⟩,L,rE (bI f a b) o⟩])=dm qs++[.slice (aD rb) L L]:=by simp[Rec.val,IK]
  have hbq:cG (fs++[f (dr a (o/b.next.length)) (dr b (o%b.next.length))])=cG fs++[.bool (f (dr a (o/b.next.length)) (dr b (o%b.next.length)))]:=by simp
  have aa_:=ko (f:=f) va vb hv (i+1)
  have ku:(c8 (bI f a b) (i+1)).length≤4096:=cn (jG (bI f a b) (i+1) (bI f a b).next.length (by rw[jF];omega)).length_le hN8
  refine ai (ao F (bs g_ F (fun z8=>?_)))
  refine ao F (bN (vs:=[vN (o/b.next.length),vN (o%b.next.length)]) 0 g_ F F F F ?_)
  refine ae (a7 (aj F (ae (aU (aM (ai (ad (bi 4 rP F F F F) (ad (a8 F) (ad (a_ oR F pz F F) (ad (bi 10 ml F F F F) (ad (cQ ml F) (ad (aB (iy F F) (ak (by omega))) (ae (a6 F (aE ?_)))))))))))))))
  refine T.ds [oI z8 234 [vN (o/b.next.length),vN (o%b.next.length)],oI z7 25 [(vI a.vars),(vI 0),(.slice tW n1 tX),(.slice rC n2 rD)],oI z6 227 [(.pointer (aD bp))],oI z5 27 [(vI 0)],oI z4 25 [(vI 0),(vI 0),nS,nS],oI z3 197 [(.func (.func g) #[] #[])],oI z2 25 (dC b k),oI z1 25 (dC a j),oI bp 238 [(vI a.vars),(vI a.start),(.slice j.nb a.next.length j.nc),(.slice j.fb a.aY.length j.fc),(vI b.vars),(vI b.start),(.slice k.nb b.next.length k.nc),(.slice k.fb b.aY.length k.fc),(.slice qb ((c8 (bI f a b) (i+1)).length) qc),(.map (some m))]] [(0,0),(1,0),(2,0),(5,0),(6,0),(7,0),(8,0),(9,0),(10,0),(11,0),(12,0),(13,0),(14,0),(15,0),(16,0),(17,0),(18,0),(19,0),(3,1),(4,1),(23,0),(20,1),(21,1),(22,1),(24,2),(25,2),(26,2)] (by exact Sub.k (.d (.d (.k (.k (.k (.k (.k (.k (.k (.k .z))))))))))) ?_
  refine au F (a_ cZ F fz F F) (au F (bi 1 e_ F F F F) (au F (aN F) (au F (a_ cZ F dA F F) (au F (bi 1 eB F F F F) (au F (bi 5 Q_ F F F F) (au F (a_ cZ F dA F F) (au F (bi 7 eB F F F F) (au F (a_ ny F bj F F) (au F (bi 0 dP F F F F) (au F (dU (i:=(o/b.next.length)) eB fx F F (aL ha.aY) (by rw[va.fin];exact hs) (by rw[ar,va.fin];exact hs)) (au F (de AG F F (aL ha.aY) YP) (au F (a_ cZ F dA F F) (au F (bi 6 eB F F F F) (au F (a_ ny F bj F F) (au F (bi 0 dP F F F F) (au F (dU (i:=(o%b.next.length)) eB fx F F (aL hb.aY) (by rw[vb.fin];exact ht) (by rw[ar,vb.fin];exact ht)) (au F (de AG F F (aL hb.aY) xG) ?_)))))))))))))))))
  refine cr F F (cN (v:=(.slice (aD rb) L L)) e_ cV F F F (fun z9=>⟨by exact Sub.d (.k (.d (.d (.k (.k (.k (.k (.k (.k (.k (.k .z))))))))))),?_⟩))
  refine cr F F (cW 2 e_ e_ cV F F F F (by simp;omega) (by decide) (Src.row (j:=0) F (by simp)) (by simp[fa]) (by omega) (by decide) (by decide) (fun pJ kx=>⟨by exact Sub.d (.k (.d (.d (.k (.k (.k (.k (.k (.k (.k (.k .z))))))))))),?_⟩))
  refine au F (a_ cZ F fz F F) ?_
  have Cm:=eK.under (B:=([aq (aD z9) 1 56 1 [(.slice (aD rb) L L)],oI z8 234 [vN (o/b.next.length),vN (o%b.next.length)],aq pJ kx 56 1 ((dm qs)++[(.slice (aD rb) L L)]),aq rC rD 4 1 (cG fs),oI z7 25 [(vI a.vars),(vI 0),(.slice tW n1 tX),(.slice rC n2 rD)],oI z6 227 [(.pointer (aD bp))],oI z5 27 [(vI 0)],oI z4 25 [(vI 0),(vI 0),nS,nS],oI z3 197 [(.func (.func g) #[] #[])],oI z2 25 (dC b k),oI z1 25 (dC a j),oI bp 238 [(vI a.vars),(vI a.start),(.slice j.nb a.next.length j.nc),(.slice j.fb a.aY.length j.fc),(vI b.vars),(vI b.start),(.slice k.nb b.next.length k.nc),(.slice k.fb b.aY.length k.fc),(.slice qb ((c8 (bI f a b) (i+1)).length) qc),(.map (some m))],aq qb qc 234 2 (lI b.next.length (c8 (bI f a b) (i+1))),dz eL (fun n:Nat=>Value.int .i64 (n:Int)) m (pmap b.next.length (c8 (bI f a b) (i+1))),aq (aD rb) L 3 1 (ints (rE (bI f a b) o))]++cd 3 qs)) (O:=([aq (aD z9) 1 56 1 [(.slice (aD rb) L L)],oI z8 234 [vN (o/b.next.length),vN (o%b.next.length)],aq pJ kx 56 1 ((dm qs)++[(.slice (aD rb) L L)]),aq rC rD 4 1 (cG fs),oI z7 25 [(vI a.vars),(vI 0),(.slice tW n1 tX),(.slice rC n2 rD)],oI z6 227 [(.pointer (aD bp))],oI z5 27 [(vI 0)],oI z4 25 [(vI 0),(vI 0),nS,nS],oI z3 197 [(.func (.func g) #[] #[])],oI z2 25 (dC b k),oI z1 25 (dC a j),oI bp 238 [(vI a.vars),(vI a.start),(.slice j.nb a.next.length j.nc),(.slice j.fb a.aY.length j.fc),(vI b.vars),(vI b.start),(.slice k.nb b.next.length k.nc),(.slice k.fb b.aY.length k.fc),(.slice qb ((c8 (bI f a b) (i+1)).length) qc),(.map (some m))],aq qb qc 234 2 (lI b.next.length (c8 (bI f a b) (i+1))),dz eL (fun n:Nat=>Value.int .i64 (n:Int)) m (pmap b.next.length (c8 (bI f a b) (i+1))),aq (aD rb) L 3 1 (ints (rE (bI f a b) o))]++(cd 3 qs))) (hf w (dr a (o/b.next.length)) (dr b (o%b.next.length))) (by exact Sub.rf)
  refine cr F F (eN Cm F F ?_)
  clear Cm
  rintro vr O' ⟨A1,rfl,rfl,rfl⟩
  refine⟨by exact Sub.d (.k (.d (.d (.k (.k (.k (.k (.k (.k (.k (.k .z))))))))))),?_⟩
  refine cr F F (cN (v:=.bool (f (dr a (o/b.next.length)) (dr b (o%b.next.length)))) eB fx F F F (fun z12=>⟨by exact Sub.d (.d (.k (.d (.d (.k (.k (.k (.k (.k (.k (.k (.k .z)))))))))))),?_⟩))
  refine cr F F (cW 4 eB eB fx F F F F (by simp;omega) (by decide) (Src.row (j:=0) F (by simp)) (by simp[fa]) (by omega) (by decide) (by decide) (fun nN mf=>⟨by exact Sub.d (.d (.k (.d (.d (.k (.k (.k (.k (.k (.k (.k (.k .z)))))))))))),?_⟩))
  refine b_ F F (bN (vs:=[(.slice pJ (n1+1) kx)]) 5 fz F F F F ?_)
  refine b_ F F (d_ F F (a_ cZ F dA F F) ?_)
  refine b_ F F (bN (vs:=[(.slice nN (n2+1) mf)]) 5 dA F F F F ?_)
  refine e7 (O':=([aq pJ kx 56 1 ((dm qs)++[(.slice (aD rb) L L)]),aq nN mf 4 1 ((cG fs)++[.bool (f (dr a (o/b.next.length)) (dr b (o%b.next.length)))]),oI z7 25 [(vI a.vars),(vI 0),(.slice pJ (n1+1) kx),(.slice nN (n2+1) mf)],oI z6 227 [(.pointer (aD bp))],oI z5 27 [(vI 0)],oI z4 25 [(vI 0),(vI 0),nS,nS],oI z3 197 [(.func (.func g) #[] #[])],oI z2 25 (dC b k),oI z1 25 (dC a j),aq (aD rb) L 3 1 (ints (rE (bI f a b) o)),oI bp 238 [(vI a.vars),(vI a.start),(.slice j.nb a.next.length j.nc),(.slice j.fb a.aY.length j.fc),(vI b.vars),(vI b.start),(.slice k.nb b.next.length k.nc),(.slice k.fb b.aY.length k.fc),(.slice qb ((c8 (bI f a b) (i+1)).length) qc),(.map (some m))],aq qb qc 234 2 (lI b.next.length (c8 (bI f a b) (i+1))),dz eL (fun n:Nat=>Value.int .i64 (n:Int)) m (pmap b.next.length (c8 (bI f a b) (i+1)))]++cd 3 qs)) (by exact Sub.d (.d (.d (.k (.k (.k (.k (.k (.k (.k (.k (.k (.ew [oI bp 238 [(vI a.vars),(vI a.start),(.slice j.nb a.next.length j.nc),(.slice j.fb a.aY.length j.fc),(vI b.vars),(vI b.start),(.slice k.nb b.next.length k.nc),(.slice k.fb b.aY.length k.fc),(.slice qb ((c8 (bI f a b) (i+1)).length) qc),(.map (some m))],aq qb qc 234 2 (lI b.next.length (c8 (bI f a b) (i+1))),dz eL (fun n:Nat=>Value.int .i64 (n:Int)) m (pmap b.next.length (c8 (bI f a b) (i+1)))] _ (.k (.k (.k .rf)))))))))))))))) ?_
  refine e7 (O':=(([aq pJ kx 56 1 (dm (qs++[⟨some ⟨rb,0,none⟩,L,rE (bI f a b) o⟩])),aq nN mf 4 1 (cG (fs++[f (dr a (o/b.next.length)) (dr b (o%b.next.length))])),oI z7 25 [(vI a.vars),(vI 0),(.slice pJ (n1+1) kx),(.slice nN (n2+1) mf)],oI z6 227 [(.pointer (aD bp))],oI z5 27 [(vI 0)],oI z4 25 [(vI 0),(vI 0),nS,nS],oI z3 197 [(.func (.func g) #[] #[])],oI z2 25 (dC b k),oI z1 25 (dC a j)]++cd 3 (qs++[⟨some ⟨rb,0,none⟩,L,rE (bI f a b) o⟩]))++[oI bp 238 [(vI a.vars),(vI a.start),(.slice j.nb a.next.length j.nc),(.slice j.fb a.aY.length j.fc),(vI b.vars),(vI b.start),(.slice k.nb b.next.length k.nc),(.slice k.fb b.aY.length k.fc),(.slice qb ((c8 (bI f a b) (i+1)).length) qc),(.map (some m))],aq qb qc 234 2 (lI b.next.length (c8 (bI f a b) (i+1))),dz eL (fun n:Nat=>Value.int .i64 (n:Int)) m (pmap b.next.length (c8 (bI f a b) (i+1)))])) (by rw[hvq,hbq];exact Sub.fold [aq pJ kx 56 1 ((dm qs)++[(.slice (aD rb) L L)]),aq nN mf 4 1 ((cG fs)++[.bool (f (dr a (o/b.next.length)) (dr b (o%b.next.length)))]),oI z7 25 [(vI a.vars),(vI 0),(.slice pJ (n1+1) kx),(.slice nN (n2+1) mf)],oI z6 227 [(.pointer (aD bp))],oI z5 27 [(vI 0)],oI z4 25 [(vI 0),(vI 0),nS,nS],oI z3 197 [(.func (.func g) #[] #[])],oI z2 25 (dC b k),oI z1 25 (dC a j)] (aq (aD rb) L 3 1 (ints (rE (bI f a b) o))) [oI bp 238 [(vI a.vars),(vI a.start),(.slice j.nb a.next.length j.nc),(.slice j.fb a.aY.length j.fc),(vI b.vars),(vI b.start),(.slice k.nb b.next.length k.nc),(.slice k.fb b.aY.length k.fc),(.slice qb ((c8 (bI f a b) (i+1)).length) qc),(.map (some m))],aq qb qc 234 2 (lI b.next.length (c8 (bI f a b) (i+1))),dz eL (fun n:Nat=>Value.int .i64 (n:Int)) m (pmap b.next.length (c8 (bI f a b) (i+1)))] (cd 3 qs) _ (yV 3 qs ⟨some ⟨rb,0,none⟩,L,rE (bI f a b) o⟩)) ?_
  refine cw ?_
  refine .inl ⟨F,_,F,pJ,nN,kx,mf,n1+1,n2+1,qs++[⟨some ⟨rb,0,none⟩,L,rE (bI f a b) o⟩],fs++[f (dr a (o/b.next.length)) (dr b (o%b.next.length))],F,by omega,by omega,by simp[HF],by simp[rL],?_,?_⟩
  ·rw[take_at XY,bm]
   show List.map Rec.xs (qs++[_])=_
   rw[bm,show List.map Rec.xs qs=_ from zy];rfl
  ·rw[take_at XY,bm,nF,←yU (f:=f) ho];rfl
 ·refine⟨none,none,0,0,0,0,[],[],F,F,F,F,F,by simp,by simp⟩
 rintro v O' (⟨N,qbF,qcF,O2,rfl,hN,tW,rC,tX,rD,n1,n2,qs,fs,rfl,hn1,hn2,HF,rL,zy,nF⟩|hF)
 rotate_left
 ·exact hF.elim
 refine⟨none,_,F,?_⟩
 refine aM ?_
 refine dx (O':=([aq tW tX 56 1 (dm qs),aq rC rD 4 1 (cG fs),oI z7 25 [(vI a.vars),(vI 0),(.slice tW n1 tX),(.slice rC n2 rD)],oI z6 227 [(.pointer (aD bp))],oI z5 27 [(vI 0)],oI z4 25 [(vI 0),(vI 0),nS,nS],oI z3 197 [(.func (.func g) #[] #[])],oI z2 25 (dC b k),oI z1 25 (dC a j)]++cd 3 qs)) (cj (List.sublist_append_left _ _)) ?_
 have hor:=Fq va vb hv hN
 have SS:(order (bI f a b)).length=N:=by rw[hor];exact hN
 have e1:nums qs=(ei (bI f a b)).next:=by rw[zy,←SS,List.take_length];exact(rX _).symm
 have e2:fs=(ei (bI f a b)).aY:=by rw[nF,←SS,List.take_length];rfl
 obtain rfl:n1=(ei (bI f a b)).next.length:=by rw[rX,ar];omega
 obtain rfl:n2=(ei (bI f a b)).aY.length:=by rw[DZ,ar];omega
 subst e2
 have vD:=kT (f:=f) va.toVal vb.toVal hv
 have vR:=ui vD hN8
 refine dx (O':=([aq tW tX 56 1 (dm qs),aq rC rD 4 1 (cG (ei (bI f a b)).aY),oI z7 25 [(vI (ei (bI f a b)).vars),(vI (ei (bI f a b)).start),(.slice tW ((ei (bI f a b)).next.length) tX),(.slice rC ((ei (bI f a b)).aY.length) rD)],oI z6 227 [(.pointer (aD bp))],oI z5 27 [(vI 0)],oI z4 25 [(vI 0),(vI 0),nS,nS],oI z3 197 [(.func (.func g) #[] #[])],oI z2 25 (dC b k),oI z1 25 (dC a j)]++cd 3 qs)) (by exact Sub.rf) ?_
 refine a7 (ad (eu 2 cZ F bL F F F) (ao F (bl Cb (aX fun w1 hI=>(haveI:=et hI;Cc w1 (ei (bI f a b)) ⟨tW,tX,rC,rD,qs⟩ (show At w1 (ei (bI f a b)) ⟨tW,tX,rC,rD,qs⟩from⟨hI.ii (mG 0 F),e1▸hI.Vb (fun q hq=>am _ (List.mem_map_of_mem (f:=Rec.sQ 3) hq)),hI.ii (mG 1 F)⟩) vR (by rw[rX,ar];exact jL hN8 (by decide)) (wO vD))) F ?_)))
 rintro vr O' ⟨N9,rfl,k',rfl,rfl⟩
 refine ad (bE (vs:=_) F F) (ad (bE (vs:=_) F F) (ao F (bN (vs:=(dC (js (bI f a b)) k')) 6 bL F F F F ?_)))
 refine ao F (bN (vs:=[(vI 0)]) 5 iZ F F F F ?_)
 refine ae (aK (aA ?_))
 refine iF (i:=6) (j:=5) Tryz.results138 cZ F bL oD F F F F F F ?_
 exact⟨[dI 56 4 3 (js (bI f a b)) k'],(by exact Sub.k .z),k',F,F⟩
theorem ED (w:World) [dE Tryz.prog w] (a b:cU) (j k:DK) (ha:At w a j) (hb:At w b k) (va:Valid a) (vb:Valid b) (hv:a.vars=b.vars) (f:Bool→Bool→Bool) (g:Nat) (hf: ∀(base:World) (x y:Bool),eK Tryz.prog base (.func (.func g) #[] #[]) [.bool x,.bool y] [] (fun v O'=>v=.bool (f x y)∧O'=[])) (aba:4096<(order (bI f a b)).length):
  cH Tryz.prog 138 [dV a j,dV b k,.func (.func g) #[] #[]] w fun v N=>v=.tuple #[dV DH ⟨none,0,none,0,[]⟩,vI 10]∧N=[]:=by
 refine aF func138 F ntmps138 F ?_
 have h4:a.next.length*b.next.length≤4096*4096:=Nat.mul_le_mul va.n4 vb.n4
 obtain⟨L,hL⟩: ∃L,2^a.vars.toNat=L:=⟨_,F⟩
 have hw:L≤64:=by rw[←hL];exact va.width
 refine ai (ao F (dG (cs:=(dC a j)) F F (fun z1=>?_)))
 refine ao F (dG (cs:=(dC b k)) F F (fun z2=>?_))
 refine ao F (dG (cs:=[(.func (.func g) #[] #[])]) F F (fun z3=>?_))
 refine ao F (bs bL F (fun z4=>?_))
 refine ao F (bs iZ F (fun z5=>?_))
 refine ae (ai (ad (eu 4 cZ F bL F F F) (ad (eu 3 cZ F bL F F F) (ao F (bl EZ (aX fun w1 hI=>(haveI:=et hI;GW w1 a b j k (hI.pR ha) (hI.pR hb) va vb hv)) F ?_)))))
 rintro vr O' ⟨N,rfl,bp,qb,m,rfl,rfl⟩
 refine ah F (ad (bE (vs:=_) F F) (ad (bE (vs:=_) F F) (ao F (bs uF F (fun z6=>?_)))))
 refine ao F (bN (vs:=[(.pointer (aD bp))]) 0 uF F F F F ?_)
 refine aj F (ae (aM (ai (ah F (ad (dQ F F) (ae (a6 F (aE (ai (ad (a_ cZ F bj F F) (ad (bi 8 dP F F F F) (ad (cE (cs:=[(vI a.vars),(vI 0),nS,nS]) jp bL (by kernel_rfl)) (ao F (bs bL F (fun z7=>?_)))))))))))))))
 refine ao F (bN (vs:=[(vI a.vars),(vI 0),nS,nS]) 0 bL F F F F ?_)
 refine ae (aM (aM (T.eX 4 1 ?_)))
 refine T.eX 56 1 ?_
 refine a7 (ad (bi 3 rP F F F F) (ao F (bl Lt (aX fun w1 hI=>(haveI:=et hI;Mq w1 bp)) F ?_)))
 rintro vr O' ⟨N,rfl,bP,rfl,rfl⟩
 refine ae (aU ?_)
 refine T.rangeFunc (first:=[]) (gr:=[(.pointer (aD bP))]) F Lu (fun yl yq TW=>?_)
 refine bW.mono (bW.sub (O':=oI bP 227 [(.pointer (aD bp))]::oI bp 238 [(vI a.vars),(vI a.start),(.slice j.nb a.next.length j.nc),(.slice j.fb a.aY.length j.fc),(vI b.vars),(vI b.start),(.slice k.nb b.next.length k.nc),(.slice k.fb b.aY.length k.fc),(.slice (aD qb) ([a.start.toNat*b.next.length+b.start.toNat].length) 1),(.map (some m))]::aq (aD qb) 1 234 2 (lI b.next.length [a.start.toNat*b.next.length+b.start.toNat])::dz eL (fun n:Nat=>Value.int .i64 (n:Int)) m (pmap b.next.length [a.start.toNat*b.next.length+b.start.toNat])::(dF yl (lp yq none)::[aq none 0 56 1 (dm []),aq none 0 4 1 (cG []),oI z7 25 [(vI a.vars),(vI 0),nS,nS],oI z6 227 [(.pointer (aD bp))],oI z5 27 [(vI 0)],oI z4 25 [(vI 0),(vI 0),nS,nS],oI z3 197 [(.func (.func g) #[] #[])],oI z2 25 (dC b k),oI z1 25 (dC a j)])) (aC [1,5,5,5,0,0,0,0,0,0,0,0,0,0] F) (Mt w f a b j k ha hb va vb hv L hL bP bp m (aD qb) 1 (.func (.yield yl) #[] #[]) (fun i O=> ∃(tW rC:Option Addr) (tX rD n1 n2:Nat) (qs:List Rec) (fs:List Bool),O=dF yl (lp yq none)::([aq tW tX 56 1 (dm qs),aq rC rD 4 1 (cG fs),oI z7 25 [(vI a.vars),(vI 0),(.slice tW n1 tX),(.slice rC n2 rD)],oI z6 227 [(.pointer (aD bp))],oI z5 27 [(vI 0)],oI z4 25 [(vI 0),(vI 0),nS,nS],oI z3 197 [(.func (.func g) #[] #[])],oI z2 25 (dC b k),oI z1 25 (dC a j)]++(cd 3 qs))∧n1=i∧n2=i∧qs.length=i∧fs.length=i∧nums qs=((order (bI f a b)).take i).map (rE (bI f a b))∧fs=((order (bI f a b)).take i).map (dr (bI f a b))∧(c8 (bI f a b) i).length≤4096) (fun O=>O=dF yl (lp yq (some .ret))::[oI z5 27 [(vI 10)],oI z4 25 [(vI 0),(vI 0),nS,nS]]) ?_ _ ?_)) ?_
 ·intro i o qb qc rb O hq hJ
  obtain⟨tW,rC,tX,rD,n1,n2,qs,fs,rfl,hn1,hn2,HF,rL,zy,nF,Fw⟩:=hJ
  refine eK.yield TW F F ?_
  refine dx (O':=([aq tW tX 56 1 (dm qs),aq rC rD 4 1 (cG fs),oI z7 25 [(vI a.vars),(vI 0),(.slice tW n1 tX),(.slice rC n2 rD)],oI z6 227 [(.pointer (aD bp))],oI z5 27 [(vI 0)],oI z4 25 [(vI 0),(vI 0),nS,nS],oI z3 197 [(.func (.func g) #[] #[])],oI z2 25 (dC b k),oI z1 25 (dC a j),oI bp 238 [(vI a.vars),(vI a.start),(.slice j.nb a.next.length j.nc),(.slice j.fb a.aY.length j.fc),(vI b.vars),(vI b.start),(.slice k.nb b.next.length k.nc),(.slice k.fb b.aY.length k.fc),(.slice qb ((c8 (bI f a b) (i+1)).length) qc),(.map (some m))],aq qb qc 234 2 (lI b.next.length (c8 (bI f a b) (i+1))),dz eL (fun n:Nat=>Value.int .i64 (n:Int)) m (pmap b.next.length (c8 (bI f a b) (i+1))),aq (aD rb) L 3 1 (ints (rE (bI f a b) o))]++cd 3 qs)) (by exact gN [aq tW tX 56 1 (dm qs),aq rC rD 4 1 (cG fs),oI z7 25 [(vI a.vars),(vI 0),(.slice tW n1 tX),(.slice rC n2 rD)],oI z6 227 [(.pointer (aD bp))],oI z5 27 [(vI 0)],oI z4 25 [(vI 0),(vI 0),nS,nS],oI z3 197 [(.func (.func g) #[] #[])],oI z2 25 (dC b k),oI z1 25 (dC a j)] _ (cd 3 qs)) ?_
  have Tf:=ko (f:=f) va vb hv i
  have YG:=(List.getElem?_eq_some_iff.1 hq).1
  have ho:=(kz (f:=f) va vb hv i).2 o (bQ hq)
  obtain⟨hs,ht⟩:=n7 ho
  have XY:=I9 hq (by rw[jF];omega)
  have YP:(cG a.aY)[o/b.next.length]? =some (.bool (dr a (o/b.next.length))):=by
   have hl:o/b.next.length<a.aY.length:=by rw[va.fin];exact hs
   rw[iB hl];unfold dr;rw[av,ap hl];rfl
  have xG:(cG b.aY)[o%b.next.length]? =some (.bool (dr b (o%b.next.length))):=by
   have hl:o%b.next.length<b.aY.length:=by rw[vb.fin];exact ht
   rw[iB hl];unfold dr;rw[av,ap hl];rfl
  have IK:(rE (bI f a b) o).length=L:=by unfold rE;rw[ar,nZ];exact hL
  have hvq:dm (qs++[⟨some ⟨rb,0,none⟩,L,rE (bI f a b) o⟩])=dm qs++[.slice (aD rb) L L]:=by simp[Rec.val,IK]
  have hbq:cG (fs++[f (dr a (o/b.next.length)) (dr b (o%b.next.length))])=cG fs++[.bool (f (dr a (o/b.next.length)) (dr b (o%b.next.length)))]:=by simp
  have aa_:=ko (f:=f) va vb hv (i+1)
  refine ai (ao F (bs g_ F (fun z8=>?_)))
  refine ao F (bN (vs:=[vN (o/b.next.length),vN (o%b.next.length)]) 0 g_ F F F F ?_)
  refine ae (a7 (aj F (ae (aU (aM (ai (ad (bi 4 rP F F F F) (ad (a8 F) (ad (a_ oR F pz F F) (ad (bi 10 ml F F F F) (ad (cQ ml F) (ad (iy F F) (ae (aP F (fun hc=>?_) (fun hc=>?_)))))))))))))))
  ·have qn:(c8 (bI f a b) (i+1)).length>4096:=by omega
   refine ai (ad (cE jp bL F) (ao F (bN (vs:=[(vI 0),(vI 0),nS,nS]) 6 bL F F F F ?_)))
   refine ao F (bN (vs:=[(vI 10)]) 5 iZ F F F F ?_)
   refine dX (O':=[oI z5 27 [(vI 10)],oI z4 25 [(vI 0),(vI 0),nS,nS]]) (by exact Sub.d (.d (.d (.d (.d (.k (.k .z))))))) ?_
   refine ae (aK ?_)
   exact .inr ⟨F,F⟩
  have qo: ¬(c8 (bI f a b) (i+1)).length>4096:=by omega
  refine aE ?_
  refine T.ds [oI z8 234 [vN (o/b.next.length),vN (o%b.next.length)],oI z7 25 [(vI a.vars),(vI 0),(.slice tW n1 tX),(.slice rC n2 rD)],oI z6 227 [(.pointer (aD bp))],oI z5 27 [(vI 0)],oI z4 25 [(vI 0),(vI 0),nS,nS],oI z3 197 [(.func (.func g) #[] #[])],oI z2 25 (dC b k),oI z1 25 (dC a j),oI bp 238 [(vI a.vars),(vI a.start),(.slice j.nb a.next.length j.nc),(.slice j.fb a.aY.length j.fc),(vI b.vars),(vI b.start),(.slice k.nb b.next.length k.nc),(.slice k.fb b.aY.length k.fc),(.slice qb ((c8 (bI f a b) (i+1)).length) qc),(.map (some m))]] [(0,0),(1,0),(2,0),(5,0),(6,0),(7,0),(8,0),(9,0),(10,0),(11,0),(12,0),(13,0),(14,0),(15,0),(16,0),(17,0),(18,0),(19,0),(3,1),(4,1),(23,0),(20,1),(21,1),(22,1),(24,2),(25,2),(26,2)] (by exact Sub.k (.d (.d (.k (.k (.k (.k (.k (.k (.k (.k .z))))))))))) ?_
  refine au F (a_ cZ F fz F F) (au F (bi 1 e_ F F F F) (au F (aN F) (au F (a_ cZ F dA F F) (au F (bi 1 eB F F F F) (au F (bi 5 Q_ F F F F) (au F (a_ cZ F dA F F) (au F (bi 7 eB F F F F) (au F (a_ ny F bj F F) (au F (bi 0 dP F F F F) (au F (dU (i:=(o/b.next.length)) eB fx F F (aL ha.aY) (by rw[va.fin];exact hs) (by rw[ar,va.fin];exact hs)) (au F (de AG F F (aL ha.aY) YP) (au F (a_ cZ F dA F F) (au F (bi 6 eB F F F F) (au F (a_ ny F bj F F) (au F (bi 0 dP F F F F) (au F (dU (i:=(o%b.next.length)) eB fx F F (aL hb.aY) (by rw[vb.fin];exact ht) (by rw[ar,vb.fin];exact ht)) (au F (de AG F F (aL hb.aY) xG) ?_)))))))))))))))))
  refine cr F F (cN (v:=(.slice (aD rb) L L)) e_ cV F F F (fun z9=>⟨by exact Sub.d (.k (.d (.d (.k (.k (.k (.k (.k (.k (.k (.k .z))))))))))),?_⟩))
  refine cr F F (cW 2 e_ e_ cV F F F F (by simp;omega) (by decide) (Src.row (j:=0) F (by simp)) (by simp[fa]) (by omega) (by decide) (by decide) (fun pJ kx=>⟨by exact Sub.d (.k (.d (.d (.k (.k (.k (.k (.k (.k (.k (.k .z))))))))))),?_⟩))
  refine au F (a_ cZ F fz F F) ?_
  have Cm:=eK.under (B:=([aq (aD z9) 1 56 1 [(.slice (aD rb) L L)],oI z8 234 [vN (o/b.next.length),vN (o%b.next.length)],aq pJ kx 56 1 ((dm qs)++[(.slice (aD rb) L L)]),aq rC rD 4 1 (cG fs),oI z7 25 [(vI a.vars),(vI 0),(.slice tW n1 tX),(.slice rC n2 rD)],oI z6 227 [(.pointer (aD bp))],oI z5 27 [(vI 0)],oI z4 25 [(vI 0),(vI 0),nS,nS],oI z3 197 [(.func (.func g) #[] #[])],oI z2 25 (dC b k),oI z1 25 (dC a j),oI bp 238 [(vI a.vars),(vI a.start),(.slice j.nb a.next.length j.nc),(.slice j.fb a.aY.length j.fc),(vI b.vars),(vI b.start),(.slice k.nb b.next.length k.nc),(.slice k.fb b.aY.length k.fc),(.slice qb ((c8 (bI f a b) (i+1)).length) qc),(.map (some m))],aq qb qc 234 2 (lI b.next.length (c8 (bI f a b) (i+1))),dz eL (fun n:Nat=>Value.int .i64 (n:Int)) m (pmap b.next.length (c8 (bI f a b) (i+1))),aq (aD rb) L 3 1 (ints (rE (bI f a b) o))]++cd 3 qs)) (O:=([aq (aD z9) 1 56 1 [(.slice (aD rb) L L)],oI z8 234 [vN (o/b.next.length),vN (o%b.next.length)],aq pJ kx 56 1 ((dm qs)++[(.slice (aD rb) L L)]),aq rC rD 4 1 (cG fs),oI z7 25 [(vI a.vars),(vI 0),(.slice tW n1 tX),(.slice rC n2 rD)],oI z6 227 [(.pointer (aD bp))],oI z5 27 [(vI 0)],oI z4 25 [(vI 0),(vI 0),nS,nS],oI z3 197 [(.func (.func g) #[] #[])],oI z2 25 (dC b k),oI z1 25 (dC a j),oI bp 238 [(vI a.vars),(vI a.start),(.slice j.nb a.next.length j.nc),(.slice j.fb a.aY.length j.fc),(vI b.vars),(vI b.start),(.slice k.nb b.next.length k.nc),(.slice k.fb b.aY.length k.fc),(.slice qb ((c8 (bI f a b) (i+1)).length) qc),(.map (some m))],aq qb qc 234 2 (lI b.next.length (c8 (bI f a b) (i+1))),dz eL (fun n:Nat=>Value.int .i64 (n:Int)) m (pmap b.next.length (c8 (bI f a b) (i+1))),aq (aD rb) L 3 1 (ints (rE (bI f a b) o))]++(cd 3 qs))) (hf w (dr a (o/b.next.length)) (dr b (o%b.next.length))) (by exact Sub.rf)
  refine cr F F (eN Cm F F ?_)
  clear Cm
  rintro vr O' ⟨A1,rfl,rfl,rfl⟩
  refine⟨by exact Sub.d (.k (.d (.d (.k (.k (.k (.k (.k (.k (.k (.k .z))))))))))),?_⟩
  refine cr F F (cN (v:=.bool (f (dr a (o/b.next.length)) (dr b (o%b.next.length)))) eB fx F F F (fun z12=>⟨by exact Sub.d (.d (.k (.d (.d (.k (.k (.k (.k (.k (.k (.k (.k .z)))))))))))),?_⟩))
  refine cr F F (cW 4 eB eB fx F F F F (by simp;omega) (by decide) (Src.row (j:=0) F (by simp)) (by simp[fa]) (by omega) (by decide) (by decide) (fun nN mf=>⟨by exact Sub.d (.d (.k (.d (.d (.k (.k (.k (.k (.k (.k (.k (.k .z)))))))))))),?_⟩))
  refine b_ F F (bN (vs:=[(.slice pJ (n1+1) kx)]) 5 fz F F F F ?_)
  refine b_ F F (d_ F F (a_ cZ F dA F F) ?_)
  refine b_ F F (bN (vs:=[(.slice nN (n2+1) mf)]) 5 dA F F F F ?_)
  refine e7 (O':=([aq pJ kx 56 1 ((dm qs)++[(.slice (aD rb) L L)]),aq nN mf 4 1 ((cG fs)++[.bool (f (dr a (o/b.next.length)) (dr b (o%b.next.length)))]),oI z7 25 [(vI a.vars),(vI 0),(.slice pJ (n1+1) kx),(.slice nN (n2+1) mf)],oI z6 227 [(.pointer (aD bp))],oI z5 27 [(vI 0)],oI z4 25 [(vI 0),(vI 0),nS,nS],oI z3 197 [(.func (.func g) #[] #[])],oI z2 25 (dC b k),oI z1 25 (dC a j),aq (aD rb) L 3 1 (ints (rE (bI f a b) o)),oI bp 238 [(vI a.vars),(vI a.start),(.slice j.nb a.next.length j.nc),(.slice j.fb a.aY.length j.fc),(vI b.vars),(vI b.start),(.slice k.nb b.next.length k.nc),(.slice k.fb b.aY.length k.fc),(.slice qb ((c8 (bI f a b) (i+1)).length) qc),(.map (some m))],aq qb qc 234 2 (lI b.next.length (c8 (bI f a b) (i+1))),dz eL (fun n:Nat=>Value.int .i64 (n:Int)) m (pmap b.next.length (c8 (bI f a b) (i+1)))]++cd 3 qs)) (by exact Sub.d (.d (.d (.k (.k (.k (.k (.k (.k (.k (.k (.k (.ew [oI bp 238 [(vI a.vars),(vI a.start),(.slice j.nb a.next.length j.nc),(.slice j.fb a.aY.length j.fc),(vI b.vars),(vI b.start),(.slice k.nb b.next.length k.nc),(.slice k.fb b.aY.length k.fc),(.slice qb ((c8 (bI f a b) (i+1)).length) qc),(.map (some m))],aq qb qc 234 2 (lI b.next.length (c8 (bI f a b) (i+1))),dz eL (fun n:Nat=>Value.int .i64 (n:Int)) m (pmap b.next.length (c8 (bI f a b) (i+1)))] _ (.k (.k (.k .rf)))))))))))))))) ?_
  refine e7 (O':=(([aq pJ kx 56 1 (dm (qs++[⟨some ⟨rb,0,none⟩,L,rE (bI f a b) o⟩])),aq nN mf 4 1 (cG (fs++[f (dr a (o/b.next.length)) (dr b (o%b.next.length))])),oI z7 25 [(vI a.vars),(vI 0),(.slice pJ (n1+1) kx),(.slice nN (n2+1) mf)],oI z6 227 [(.pointer (aD bp))],oI z5 27 [(vI 0)],oI z4 25 [(vI 0),(vI 0),nS,nS],oI z3 197 [(.func (.func g) #[] #[])],oI z2 25 (dC b k),oI z1 25 (dC a j)]++cd 3 (qs++[⟨some ⟨rb,0,none⟩,L,rE (bI f a b) o⟩]))++[oI bp 238 [(vI a.vars),(vI a.start),(.slice j.nb a.next.length j.nc),(.slice j.fb a.aY.length j.fc),(vI b.vars),(vI b.start),(.slice k.nb b.next.length k.nc),(.slice k.fb b.aY.length k.fc),(.slice qb ((c8 (bI f a b) (i+1)).length) qc),(.map (some m))],aq qb qc 234 2 (lI b.next.length (c8 (bI f a b) (i+1))),dz eL (fun n:Nat=>Value.int .i64 (n:Int)) m (pmap b.next.length (c8 (bI f a b) (i+1)))])) (by rw[hvq,hbq];exact Sub.fold [aq pJ kx 56 1 ((dm qs)++[(.slice (aD rb) L L)]),aq nN mf 4 1 ((cG fs)++[.bool (f (dr a (o/b.next.length)) (dr b (o%b.next.length)))]),oI z7 25 [(vI a.vars),(vI 0),(.slice pJ (n1+1) kx),(.slice nN (n2+1) mf)],oI z6 227 [(.pointer (aD bp))],oI z5 27 [(vI 0)],oI z4 25 [(vI 0),(vI 0),nS,nS],oI z3 197 [(.func (.func g) #[] #[])],oI z2 25 (dC b k),oI z1 25 (dC a j)] (aq (aD rb) L 3 1 (ints (rE (bI f a b) o))) [oI bp 238 [(vI a.vars),(vI a.start),(.slice j.nb a.next.length j.nc),(.slice j.fb a.aY.length j.fc),(vI b.vars),(vI b.start),(.slice k.nb b.next.length k.nc),(.slice k.fb b.aY.length k.fc),(.slice qb ((c8 (bI f a b) (i+1)).length) qc),(.map (some m))],aq qb qc 234 2 (lI b.next.length (c8 (bI f a b) (i+1))),dz eL (fun n:Nat=>Value.int .i64 (n:Int)) m (pmap b.next.length (c8 (bI f a b) (i+1)))] (cd 3 qs) _ (yV 3 qs ⟨some ⟨rb,0,none⟩,L,rE (bI f a b) o⟩)) ?_
  refine cw ?_
  refine .inl ⟨F,_,F,pJ,nN,kx,mf,n1+1,n2+1,qs++[⟨some ⟨rb,0,none⟩,L,rE (bI f a b) o⟩],fs++[f (dr a (o/b.next.length)) (dr b (o%b.next.length))],F,by omega,by omega,by simp[HF],by simp[rL],?_,?_,by omega⟩
  ·rw[take_at XY,bm]
   show List.map Rec.xs (qs++[_])=_
   rw[bm,show List.map Rec.xs qs=_ from zy];rfl
  ·rw[take_at XY,bm,nF,←yU (f:=f) ho];rfl
 ·refine⟨none,none,0,0,0,0,[],[],F,F,F,F,F,by simp,by simp,by simp[c8]⟩
 rintro v O' (⟨N,qbF,qcF,O2,rfl,hN,tW,rC,tX,rD,n1,n2,qs,fs,rfl,hn1,hn2,HF,rL,zy,nF,Fw⟩|rfl)
 ·exact absurd aba (by rw[Fq va vb hv hN];omega)
 refine⟨some .ret,_,F,?_⟩
 refine aA ?_
 refine iF (i:=1) (j:=0) Tryz.results138 cZ F bL oD F F F F F F ?_
 exact⟨[],Sub.z,F,F⟩
end Go.Proofs.YtgdbfideeeegmaaGreatDoor

namespace Go.Proofs.YtgdbfideeeegmaaGreatDoor
open Go.Lx Go.RowKit _root_.Go.Proofs.Tryz
set_option maxRecDepth 20000 in
theorem Mu (w:World) [dE Tryz.prog w] (a b:cU) (j k:DK) (ha:At w a j) (hb:At w b k) (M_:a.next.length<9223372036854775807) (yN: ∀r∈a.next,r.length<9223372036854775807) (yO:a.aY.length<9223372036854775807) (Ti:b.next.length<9223372036854775807) (Mo: ∀r∈b.next,r.length<9223372036854775807) (Mp:b.aY.length<9223372036854775807) (f:Bool→Bool→Bool) (g:Nat) (hf: ∀(base:World) (x y:Bool),eK Tryz.prog base (.func (.func g) #[] #[]) [.bool x,.bool y] [] (fun v O'=>v=.bool (f x y)∧O'=[])) (hN:gU a b=0→(order (bI f a b)).length≤4096):
  cH Tryz.prog 138 [dV a j,dV b k,.func (.func g) #[] #[]] w fun v N=> ∃k':DK,v=.tuple #[dV (IJ f a b) k',vI (gU a b:Int)]∧N=[dI 56 4 3 (IJ f a b) k']:=by
 by_cases he:gU a b=0
 ·obtain⟨va,vb,hv⟩:=pY.1 he
  rw[I4 he,he]
  exact CM w a b j k ha hb va vb hv f g hf (hN he)
 ·rw[Nh he]
  refine bW.dk (g:=fun x=>.tuple #[x,vI (gU a b:Int)]) ((fO 56 1 (fO 4 1 (Fh w a b j k ha hb M_ yN yO Ti Mo Mp g he))).mono ?_)
  rintro v N ⟨O2,rfl,O3,rfl,rfl,rfl⟩
  exact⟨none,0,none,0,[],F,F,F⟩
theorem XZ (w:World) [dE Tryz.prog w] (a:cU) (j:DK) (ha:At w a j) (M_:a.next.length<9223372036854775807) (yN: ∀r∈a.next,r.length<9223372036854775807) (yO:a.aY.length<9223372036854775807) (hN:gU a a=0→(order (bI pW a a)).length≤4096):
  cH Tryz.prog 102 [dV a j] w fun v N=> ∃k':DK,v=.tuple #[dV (IJ pW a a) k',vI (gU a a:Int)]∧N=[dI 56 4 3 (IJ pW a a) k']:=by
 refine aF func102 F ntmps102 F ?_
 refine ai (ao F (dG (cs:=(dC a j)) F F (fun nY=>?_)))
 refine ao F (bs bL F (fun xq=>?_))
 refine aj F (ae (ai (ad (eu 1 cZ F bL F F F) (ad (eu 1 cZ F bL F F F) (ao F (bl EE (aX fun w1 hI=>(haveI:=et hI;Mu w1 a a j j (hI.pR ha) (hI.pR ha) M_ yN yO M_ yN yO pW 139 XW hN)) F ?_))))))
 rintro vr O' ⟨N,rfl,k',rfl,rfl⟩
 refine ad (bE (vs:=_) F F) (ad (bE (vs:=_) F F) (ao F (bN (vs:=(dC (IJ pW a a) k')) 1 bL F F F F ?_)))
 refine aj F (ae (aK (aA ?_)))
 refine jT (vI (gU a a:Int)) (i:=1) Tryz.results102 cZ F bL F F F F ?_
 exact⟨[dI 56 4 3 (IJ pW a a) k'],(by exact Sub.k .z),k',F,F⟩
theorem Z3 (w:World) [dE Tryz.prog w] (a:cU) (j:DK) (ha:At w a j) (M_:a.next.length<9223372036854775807) (yN: ∀r∈a.next,r.length<9223372036854775807) (yO:a.aY.length<9223372036854775807):
  cH Tryz.prog 102 [dV a j] w fun v N=> ∃k':DK,v=.tuple #[dV (IJ pW a a) k',vI (dD a:Int)]∧N=[dI 56 4 3 (IJ pW a a) k']:=by
 have h:=XZ w a j ha M_ yN yO (fun hw=>by
  have hv:=(pY.1 hw).1
  exact cn (pX hv.toVal hv.toVal F hv.toVal F (Ng.refl a) (Ng.refl a)) hv.n4)
 rwa[uX]at h
end Go.Proofs.YtgdbfideeeegmaaGreatDoor

namespace Go.Proofs.YtgdbfideeeegmaaGreatDoor
open Go.Lx Go.RowKit _root_.Go.Proofs.Tryz
abbrev YD (Uu:Nat):Prop:= ∀(w:World) [dE Tryz.prog w] (cb:Nat) (eb:Option Addr) (en ec vs B L:Nat) (eV:Sl w (aD cb) [.slice eb en ec,vI (vs:Int),vI (B:Int)]) (gv:vs≤6) (hL:2^vs=L) (iR:1≤B) (hB:B≤4096)
  (tr:Key→Nat→Key) (fin:Key→Bool) (start:Key) (Rp:Key→SR→Prop) (r0:SR) (fk fn ff:Value) (HP:Rp start r0) (Uv:r0.k7=[]) (vK: ∀k r,Rp k r→fa r.a=true∧fa r.b=true)
  (Cx: ∀w1 k r,Inv w [] w1→Rp k r→(∀it∈r.k7,it.P w1)→eK Tryz.prog w1 fk [(.agg #[r.a,r.b])] [] (fun v O'=>v=str k∧O'=[]))
  (fp: ∀w1 k r x,Inv w [] w1→Rp k r→(∀it∈r.k7,it.P w1)→x<L→eK Tryz.prog w1 fn [(.agg #[r.a,r.b]),.int .u8 (x:Int)] [] (fun v N=> ∃r',v=(.agg #[r'.a,r'.b])∧N=r'.k7∧Rp (tr k x) r'))
  (xt: ∀w1 k r,Inv w [] w1→Rp k r→(∀it∈r.k7,it.P w1)→eK Tryz.prog w1 ff [(.agg #[r.a,r.b])] [] (fun v O'=>v=.bool (fin k)∧O'=[])),
  dB Tryz.prog w (.iface 163 (.agg #[])) Uu [(dW (aD cb) 0),(.agg #[r0.a,r0.b]),fk,fn,ff] [] (fun v N=> ∃M k',v=dV M k'∧N=[dI 56 4 3 M k']∧fM (vs:Int) B M (fun u=>fin (u.foldl tr start))∧HQ tr L start B) (¬HQ tr L start B)
theorem ExB:(let Uu:Nat:=154;let nG:Nat:=208;YD Uu)∧(let Uu:Nat:=74;let nG:Nat:=122;YD Uu):=by
 refine⟨?_,?_⟩
 have hq1:=func154;have hq2:=ntmps154;have Qi:=nO;have Ep:=lQ;have Oh:=Wc;have hq7:=Tryz.results154
 rotate_left
 have hq1:=func74;have hq2:=ntmps74;have Qi:=mb;have Ep:=kv;have Oh:=We;have hq7:=Tryz.results74
 rotate_left
 all_goals
  intro Uu nG w _ cb eb en ec vs B L eV gv hL iR hB tr fin start Rp r0 fk fn ff HP Uv vK Cx fp xt
  refine dM hq1 F hq2 F ?_
  have Sj:L≤64:=by rw[←hL];exact cF (by decide) gv
  obtain⟨ZI,IM⟩:=vK _ _ HP
  refine ai (ao F (dG (cs:=[r0.a,r0.b]) F F (fun z1=>?_)))
  refine ao F (bs bL F (fun z2=>?_))
  refine ae (ai (ad (eu 1 Qi F Ep F F F) (ao F (cz (m:=1) (parts:=[(0,_)]) (cs:=[r0.a,r0.b]) Oh Ep (by decide) (by kernel_rfl) F (fun z3=>?_)))))
  refine aj F (ae (ai (ao F (lM str (fun n:Nat=>Value.int .i64 (n:Int)) (fun m4=>?_)))))
  refine ah F (ad (eu 3 Qi F Ep F F F) ?_)
  have qC:=(ep (O:=[dz str (fun n:Nat=>Value.int .i64 (n:Int)) m4 [],aq (aD z3) 1 nG 2 [r0.a,r0.b],oI z2 25 [(vI 0),(vI 0),nS,nS],oI z1 nG [r0.a,r0.b]]) fun w1 hI=>haveI:=et hI;Cx w1 start r0 hI.nD HP (by rw[Uv];simp))
  refine ao F (eN qC F F ?_)
  clear qC
  rintro vr O' ⟨N,rfl,rfl,rfl⟩
  refine ao F (fY (a:=start) (v:=(0:Nat)) 0 iJ (gh.string ve) F F F F (by simp) ?_)
  refine ah F (aj F (ae (ai (ah F (ad (a8 F) (ad (cy lx F bj F F (aL eV) (by first|omega|(simp;done)|(simp;omega)|(simp_all;done)|(simp_all;omega))) (ad (de dP F F (aL eV) F) (ad (cE (cs:=[vN vs,(vI 0),nS,nS]) jp bL (by kernel_rfl)) (ao F (bs bL F (fun z5=>?_)))))))))))
  refine ao F (bN (vs:=[vN vs,(vI 0),nS,nS]) 0 bL F F F F ?_)
  refine ae (aM (ai (aj F (ae (aU (T.eX 4 1 ?_))))))
  refine T.eX 56 1 ?_
  refine dx (O':=[aq (aD z3) 1 nG 2 (eR c2 [r0]),dz str (fun n:Nat=>Value.int .i64 (n:Int)) m4 [start].zipIdx,aq none 0 56 1 (dm []),aq none 0 4 1 (cG []),oI z5 25 [vN vs,(vI 0),nS,nS],oI z2 25 [(vI 0),(vI 0),nS,nS],oI z1 nG [r0.a,r0.b]]++(cd 3 []++ju [r0])) (by rw[show ju [r0]=[] by simp[ju,Uv]];exact(aC [4,3,0,0,0,0,0] F)) ?_
  refine dO (fun(s:Nat) ρ O=> ∃(ks:List Key) (qs:List SR) (rq:List Rec) (sb ob fb:Option Addr) (sc oc fc:Nat),O=([aq sb sc nG 2 (eR c2 qs),dz str (fun n:Nat=>Value.int .i64 (n:Int)) m4 ks.zipIdx,aq ob oc 56 1 (dm rq),aq fb fc 4 1 (cG ((ks.take s).map fin)),oI z5 25 [vN vs,(vI 0),(.slice ob s oc),(.slice fb s fc)],oI z2 25 [(vI 0),(vI 0),nS,nS],oI z1 nG [r0.a,r0.b]]++(cd 3 rq++ju qs))∧xu tr L start s=ks∧Cy tr L start ks∧Kk Rp ks qs∧ks.length≤B∧qD tr L ks s (nums rq)∧dv [(0,(dW (aD cb) 0)),(1,(.agg #[r0.a,r0.b])),(2,fk),(3,fn),(4,ff),(6,(.pointer (aD z1))),(10,(.pointer (aD z2))),(11,(.slice sb qs.length sc)),(12,(.map (some m4))),(13,(.pointer (aD z5))),(14,vN s)] ρ) (fun s=>B-s) 0 ?_ ?_
  ·exact⟨[start],[r0],[],(aD z3),none,none,1,0,0,F,F,Cy.one _ _ _,Kk.one HP,by simpa using iR,⟨F,bn _,fun i hi=>absurd hi (by omega),fun i hi=>absurd hi (by omega)⟩,(.of F)⟩
  rintro s ρ O ⟨ks,qs,rq,sb,ob,fb,sc,oc,fc,rfl,om,hF,hR,Oi,hE,hH⟩
  obtain⟨gF,rfl⟩:=hH.elim
  clear hH
  have HF:=hR.1
  have IK:rq.length=s:=by have:=hE.len;simpa using this
  have MT:=hE.le
  refine aM (ai (ah F (ah F (ad (cQ Oh F) (ad (cT F F) (ae (aP F (fun hc=>?_) (fun hc=>?_))))))))
  ·have qn:s<qs.length:=by omega
   have Sk:s<ks.length:=by omega
   refine aE (aM (aU (ai (ah F (ad (a8 F) (ad (cy lx F bj F F (aL eV) (by first|omega|(simp;done)|(simp;omega)|(simp_all;done)|(simp_all;omega))) (ad (de dP F F (aL eV) F) (ad (bK (nU (v:=vs) F F (by omega)) (v':=vN L) (by rw[hL])) (ao F (cY (m:=L) cL bj F F (by omega) (by omega) (fun z6=>?_)))))))))))
   refine aj F (ae (aM (ai (ah F (ad (cQ cL F) (ah F (ae (aU ?_))))))))
   refine dO (fun(x:Nat) ρ O=> ∃(fj:List Key) (im:List SR) (ys:List Int) (tb:Option Addr) (tc:Nat),O=([aq (aD z6) L 3 1 (ints ys),aq tb tc nG 2 (eR c2 im),dz str (fun n:Nat=>Value.int .i64 (n:Int)) m4 fj.zipIdx,aq ob oc 56 1 (dm rq),aq fb fc 4 1 (cG ((ks.take s).map fin)),oI z5 25 [vN vs,(vI 0),(.slice ob s oc),(.slice fb s fc)],oI z2 25 [(vI 0),(vI 0),nS,nS],oI z1 nG [r0.a,r0.b]]++(cd 3 rq++ju im))∧x≤L∧ys.length=L∧Cy tr L start fj∧Kk Rp fj im∧fj.length≤B∧fj=((List.range x).map (tr (ks.getD s []))).foldl add ks∧(∀i,i<x→ys[i]? =some ((ix (tr (ks.getD s []) i) fj:Nat):Int))∧dv [(0,(dW (aD cb) 0)),(1,(.agg #[r0.a,r0.b])),(2,fk),(3,fn),(4,ff),(6,(.pointer (aD z1))),(10,(.pointer (aD z2))),(11,(.slice tb im.length tc)),(12,(.map (some m4))),(13,(.pointer (aD z5))),(14,vN s),(15,(.slice (aD z6) L L)),(45,vI (L:Int)),(46,vN x)] ρ) (fun x=>L-x) 0 ?_ ?_
   ·exact⟨ks,qs,List.replicate L 0,sb,sc,by simp,bn _,by simp,hF,hR,Oi,F,fun i hi=>absurd hi (by omega),(.of F)⟩
   rintro x ρ O ⟨fj,im,ys,tb,tc,rfl,hx,Cz,Oj,yn,Kl,pQ,yH,hH⟩
   obtain⟨gF,rfl⟩:=hH.elim
   clear hH
   have uw:ks<+:fj:=pQ▸gH _ _
   have sk:fj.getD s []=ks.getD s []:=me uw Sk
   have Wf:=uw.length_le
   have Km:=yn.1
   have vM:s<im.length:=by omega
   have Sm:=yn.2 s vM
   rw[sk]at Sm
   refine ai (ad (cT F F) (ae (aM (aP F (fun hc=>?_) (fun hc=>?_)))))
   ·have oB:x<L:=by omega
    have Kn:x<L:=by omega
    have MY:ks.getD s []∈fj:=by rw[←sk,av,ap (by omega),Option.getD_some];exact aQ _
    refine aE (aM (aU (ai (ah F (aj F (ae (ai (ah F (ah F (ah F (ad (dT (i:=s) Oh Ep F F (dR (mG 1 F)) vM (by rw[kw (f:=c2) (n:=2) (fun _=>rfl)];omega)) (ad (eO (vs:=[im[s].a,im[s].b]) Qi F Ep F F (br _) (dR (mG 1 F)) (Qj vM)) (ah F (ad (fX dP fA F (qi (by omega))) ?_))))))))))))))
    have Ko:=(ep (O:=([aq (aD z6) L 3 1 (ints ys),aq tb tc nG 2 (eR c2 im),dz str (fun n:Nat=>Value.int .i64 (n:Int)) m4 fj.zipIdx,aq ob oc 56 1 (dm rq),aq fb fc 4 1 (cG ((ks.take s).map fin)),oI z5 25 [vN vs,(vI 0),(.slice ob s oc),(.slice fb s fc)],oI z2 25 [(vI 0),(vI 0),nS,nS],oI z1 nG [r0.a,r0.b]]++(cd 3 rq++ju im))) fun w1 hI=>haveI:=et hI;fp w1 (ks.getD s []) im[s] x hI.nD Sm (fun it fI=>hI.holds it (am _ (am _ (tD vM fI)))) Kn)
    refine ao F (eN Ko F F ?_)
    clear Ko
    rintro vr O' ⟨N9,rfl,r9,rfl,rfl,Kp⟩
    obtain⟨Wg,ZT⟩:=vK _ _ Kp
    refine dX (O':=([aq (aD z6) L 3 1 (ints ys),aq tb tc nG 2 (eR c2 im),dz str (fun n:Nat=>Value.int .i64 (n:Int)) m4 fj.zipIdx,aq ob oc 56 1 (dm rq),aq fb fc 4 1 (cG ((ks.take s).map fin)),oI z5 25 [vN vs,(vI 0),(.slice ob s oc),(.slice fb s fc)],oI z2 25 [(vI 0),(vI 0),nS,nS],oI z1 nG [r0.a,r0.b]]++(r9.k7++(cd 3 rq++ju im)))) (by exact fL [] _ r9.k7 (cd 3 rq++ju im)) ?_
    refine ao F (bs Ep F (fun z7=>?_))
    refine ao F (vJ (v:=(.agg #[r9.a,r9.b])) (vs:=[r9.a,r9.b]) 0 Ep F F F F (by simp[Wg,ZT]) F (by simp[fh]) ?_)
    refine ae (ai (ah F (ah F (ad (eu 0 Qi F Ep F F F) ?_))))
    have Cn:=(ep (O:=([oI z7 nG [r9.a,r9.b],aq (aD z6) L 3 1 (ints ys),aq tb tc nG 2 (eR c2 im),dz str (fun n:Nat=>Value.int .i64 (n:Int)) m4 fj.zipIdx,aq ob oc 56 1 (dm rq),aq fb fc 4 1 (cG ((ks.take s).map fin)),oI z5 25 [vN vs,(vI 0),(.slice ob s oc),(.slice fb s fc)],oI z2 25 [(vI 0),(vI 0),nS,nS],oI z1 nG [r0.a,r0.b]]++(r9.k7++(cd 3 rq++ju im)))) fun w1 hI=>haveI:=et hI;Cx w1 (tr (ks.getD s []) x) r9 hI.nD Kp (fun it fI=>hI.holds it (am _ (aT _ fI))))
    refine ao F (eN Cn F F ?_)
    clear Cn
    rintro vr O' ⟨N,rfl,rfl,rfl⟩
    refine ad (bK (jK (a:=tr (ks.getD s []) x) iJ bj (gh.string ve) F F (mG 3 F)) (v':=(.tuple #[vN (if tr (ks.getD s []) x∈fj then ix (tr (ks.getD s []) x) fj else 0),.bool (decide (tr (ks.getD s []) x∈fj))])) (by rw[li];generalize tr (ks.getD s []) x=k9;by_cases h9:k9∈fj<;>simp[h9])) (ah F (ad (bE (vs:=_) F F) (ad (bE (vs:=_) F F) (aj F (aj F (ae (aM (ai (ah F (ad (jh F) (ae (T.cond F (fun hc=>?_) (fun hc=>?_)))))))))))))
    ·have HR:tr (ks.getD s []) x∉fj:=by simpa using hc
     have mu:=FY HR
     refine ai (ah F (ad (cQ Oh F) (aj F (ae (ai (ah F (ah F (ad (eu 0 Qi F Ep F F F) ?_))))))))
     have CA:=(ep (O:=([oI z7 nG [r9.a,r9.b],aq (aD z6) L 3 1 (ints ys),aq tb tc nG 2 (eR c2 im),dz str (fun n:Nat=>Value.int .i64 (n:Int)) m4 fj.zipIdx,aq ob oc 56 1 (dm rq),aq fb fc 4 1 (cG ((ks.take s).map fin)),oI z5 25 [vN vs,(vI 0),(.slice ob s oc),(.slice fb s fc)],oI z2 25 [(vI 0),(vI 0),nS,nS],oI z1 nG [r0.a,r0.b]]++(r9.k7++(cd 3 rq++ju im)))) fun w1 hI=>haveI:=et hI;Cx w1 (tr (ks.getD s []) x) r9 hI.nD Kp (fun it fI=>hI.holds it (am _ (aT _ fI))))
     refine ao F (eN CA F F ?_)
     clear CA
     rintro vr O' ⟨N,rfl,rfl,rfl⟩
     refine ah F (ao F (qh (a:=tr (ks.getD s []) x) (v:=im.length) 3 iJ (gh.string ve) F F F F (by rw[mW];exact HR) ?_))
     refine ae (ai (ah F (ad (eu 0 Qi F Ep F F F) (ao F (cz (m:=1) (parts:=[(0,_)]) (cs:=[r9.a,r9.b]) Oh Ep (by decide) (by kernel_rfl) F (fun z8=>?_))))))
     refine ao F (cW 3 Oh Oh Ep F F F F (by rw[kw (f:=c2) (n:=2) (fun _=>rfl)]) (by decide) (Src.row (j:=0) F (by simp)) (by simp[Wg,ZT]) (by omega) (by decide) (by decide) (fun z9 ni=>?_))
     refine aj F (ae (ai (ah F (ah F (ad (a8 F) (ad (cy lx F bj F F (aL eV) (by first|omega|(simp;done)|(simp;omega)|(simp_all;done)|(simp_all;omega))) (ad (de dP F F (aL eV) F) (ad (lB F F) (ae (aP F (fun hc=>?_) (fun hc=>?_)))))))))))
     ·have Wh:im.length≥B:=by omega
      refine a7 (ad (cE wh AM F) (ad (ra FV F) ?_))
      exact eG F (wi F (fun _=>⟨F,(Oj.add MY Kn).Wi (by rw[mu];simp;omega)⟩))
     have Wj: ¬im.length≥B:=by omega
     refine aE (a7 (ah F (ah F (ah F (ad (dU (i:=x) cL bj F F (dR (mG 2 F)) (by omega) (by rw[ar];omega)) (ao F (ol (j:=x) (v:=vI (im.length:Int)) (vs:=[(vI (im.length:Int))]) (cs:=ints ys) 2 bj F F F F F (by simp) F (by first|(simp;omega)|(simp_all;omega)) ?_)))))))
     refine dX (O':=([aq (aD z8) 1 nG 2 [r9.a,r9.b],oI z7 nG [r9.a,r9.b],aq (aD z6) L 3 1 (ints (ys.set x ((ix (tr (ks.getD s []) x) (add fj (tr (ks.getD s []) x)):Nat):Int))),aq z9 ni nG 2 ((eR c2 im)++[r9.a,r9.b]),dz str (fun n:Nat=>Value.int .i64 (n:Int)) m4 (fj.zipIdx++[(tr (ks.getD s []) x,im.length)]),aq ob oc 56 1 (dm rq),aq fb fc 4 1 (cG ((ks.take s).map fin)),oI z5 25 [vN vs,(vI 0),(.slice ob s oc),(.slice fb s fc)],oI z2 25 [(vI 0),(vI 0),nS,nS],oI z1 nG [r0.a,r0.b]]++(r9.k7++(cd 3 rq++ju im)))) (by rw[show fh (ints ys) x [(vI (im.length:Int))]=ints (ys.set x ((ix (tr (ks.getD s []) x) (add fj (tr (ks.getD s []) x)):Nat):Int))from(by rw[mu,fS HR,show ix (tr (ks.getD s []) x) [tr (ks.getD s []) x]=0 by simp[ix],Nat.add_zero,←Km];simp[fh])];exact cj (aZ _)) ?_
     refine ae (a7 (ad (dy (a:=x) (b:=1) F F (by omega)) (ah F (ae ?_))))
     have Er: ∀y,y<x→tr (ks.getD s []) y∈fj:=fun y hy=>by rw[pQ,eC];exact .inr (List.mem_map_of_mem (List.mem_range.2 hy))
     have Es: ∀i,i<x+1→(ys.set x ((ix (tr (ks.getD s []) x) (add fj (tr (ks.getD s []) x)):Nat):Int))[i]? =some ((ix (tr (ks.getD s []) i) (add fj (tr (ks.getD s []) x)):Nat):Int):=fun i hi=>by
      by_cases e:i=x
      ·subst e;rw[List.getElem?_set_self (by omega)]
      ·rw[List.getElem?_set_ne (fun h=>e h.symm),yH i (by omega),ig (jM _ _) (Er i (by omega))]
     have zz:=yn.snoc Kp
     rw[←mu]at zz
     have ZU:=Oj.add MY Kn
     exact⟨x+1,by omega,[aq (aD z6) L 3 1 (ints (ys.set x ((ix (tr (ks.getD s []) x) (add fj (tr (ks.getD s []) x)):Nat):Int))),aq z9 ni nG 2 (eR c2 (im++[r9])),dz str (fun n:Nat=>Value.int .i64 (n:Int)) m4 ((add fj (tr (ks.getD s []) x)).zipIdx),aq ob oc 56 1 (dm rq),aq fb fc 4 1 (cG ((ks.take s).map fin)),oI z5 25 [vN vs,(vI 0),(.slice ob s oc),(.slice fb s fc)],oI z2 25 [(vI 0),(vI 0),nS,nS],oI z1 nG [r0.a,r0.b]]++(cd 3 rq++ju (im++[r9])),(by rw[zH,vh,mu,show(fj++[tr (ks.getD s []) x]).zipIdx=fj.zipIdx++[(tr (ks.getD s []) x,im.length)] by rw[List.zipIdx_append,Km];simp];exact xw _ _ _ _ _ (by exact Sub.d (.d (.k (.k (.k (.k (.k (.k (.k (.k .z))))))))))),add fj (tr (ks.getD s []) x),im++[r9],_,z9,ni,F,by omega,by simp[Cz],ZU,zz,by rw[mu];simp;omega,by rw[ja,←pQ],Es,⟨F,F,F,F,F,F,F,(show Value.slice z9 (im.length+1) ni=_ by rw[aw];rfl),F,F,F,F,F,F,trivial⟩⟩
    have HR:tr (ks.getD s []) x∈fj:=by simpa using hc
    have mu:=FZ HR
    refine aE (a7 (ah F (ah F (ah F (ad (dU (i:=x) cL bj F F (dR (mG 1 F)) (by omega) (by rw[ar];omega)) (ao F (ol (j:=x) (v:=vN (if tr (ks.getD s []) x∈fj then ix (tr (ks.getD s []) x) fj else 0)) (vs:=[(vN (if tr (ks.getD s []) x∈fj then ix (tr (ks.getD s []) x) fj else 0))]) (cs:=ints ys) 1 bj F F F F F (by simp) F (by first|(simp;omega)|(simp_all;omega)) ?_)))))))
    refine dX (O':=([oI z7 nG [r9.a,r9.b],aq (aD z6) L 3 1 (ints (ys.set x ((ix (tr (ks.getD s []) x) (add fj (tr (ks.getD s []) x)):Nat):Int))),aq tb tc nG 2 (eR c2 im),dz str (fun n:Nat=>Value.int .i64 (n:Int)) m4 fj.zipIdx,aq ob oc 56 1 (dm rq),aq fb fc 4 1 (cG ((ks.take s).map fin)),oI z5 25 [vN vs,(vI 0),(.slice ob s oc),(.slice fb s fc)],oI z2 25 [(vI 0),(vI 0),nS,nS],oI z1 nG [r0.a,r0.b]]++(r9.k7++(cd 3 rq++ju im)))) (by rw[show fh (ints ys) x [(vN (if tr (ks.getD s []) x∈fj then ix (tr (ks.getD s []) x) fj else 0))]=ints (ys.set x ((ix (tr (ks.getD s []) x) (add fj (tr (ks.getD s []) x)):Nat):Int))from(by rw[mu,aO HR];simp[fh])];exact cj (aZ _)) ?_
    refine ae (a7 (ad (dy (a:=x) (b:=1) F F (by omega)) (ah F (ae ?_))))
    have Er: ∀y,y<x→tr (ks.getD s []) y∈fj:=fun y hy=>by rw[pQ,eC];exact .inr (List.mem_map_of_mem (List.mem_range.2 hy))
    have Es: ∀i,i<x+1→(ys.set x ((ix (tr (ks.getD s []) x) (add fj (tr (ks.getD s []) x)):Nat):Int))[i]? =some ((ix (tr (ks.getD s []) i) (add fj (tr (ks.getD s []) x)):Nat):Int):=fun i hi=>by
     by_cases e:i=x
     ·subst e;rw[List.getElem?_set_self (by omega)]
     ·rw[List.getElem?_set_ne (fun h=>e h.symm),yH i (by omega),ig (jM _ _) (Er i (by omega))]
    have zz:=yn
    rw[←mu]at zz
    exact⟨x+1,by omega,[aq (aD z6) L 3 1 (ints (ys.set x ((ix (tr (ks.getD s []) x) (add fj (tr (ks.getD s []) x)):Nat):Int))),aq tb tc nG 2 (eR c2 im),dz str (fun n:Nat=>Value.int .i64 (n:Int)) m4 ((add fj (tr (ks.getD s []) x)).zipIdx),aq ob oc 56 1 (dm rq),aq fb fc 4 1 (cG ((ks.take s).map fin)),oI z5 25 [vN vs,(vI 0),(.slice ob s oc),(.slice fb s fc)],oI z2 25 [(vI 0),(vI 0),nS,nS],oI z1 nG [r0.a,r0.b]]++(cd 3 rq++ju im),(by rw[mu];exact ft _ _ _ _ (by exact Sub.d (.k (.k (.k (.k (.k (.k (.k (.k .z)))))))))),add fj (tr (ks.getD s []) x),im,_,tb,tc,F,by omega,by simp[Cz],Oj.add MY Kn,zz,by rw[mu];exact Kl,by rw[ja,←pQ],Es,(.of F)⟩
   have oC: ¬x<L:=by omega
   refine cK ?_
   refine T.ds [aq tb tc nG 2 (eR c2 im),oI z5 25 [vN vs,(vI 0),(.slice ob s oc),(.slice fb s fc)]] [(0,0),(1,0),(2,0),(5,0),(6,0),(7,0),(8,0),(9,0),(10,0),(11,0),(3,1),(4,1),(15,0),(12,1),(13,1),(14,1),(16,2),(17,2),(18,2)] (by exact Sub.d (.k (.d (.d (.d (.k .z)))))) ?_
   refine au F (a_ cZ F fz F F) (au F (bi 1 e_ F F F F) (au F (aN F) (au F (a_ cZ F dA F F) (au F (bi 1 eB F F F F) (au F (aN F) (au F (aN F) (au F (aN F) (au F (dT (i:=s) Oh Ep F F (dR (mG 0 F)) vM (by rw[kw (f:=c2) (n:=2) (fun _=>rfl)];omega)) (au F (eO (vs:=[im[s].a,im[s].b]) Qi F Ep F F (br _) (dR (mG 0 F)) (Qj vM)) ?_)))))))))
   refine cr F F (cN (v:=(.slice (aD z6) L L)) e_ cV F F F (fun ym=>⟨by exact Sub.d (.d (.k (.d (.d (.d (.k .z)))))),?_⟩))
   refine cr F F (cW 4 e_ e_ cV F F F F (by simp;omega) (by decide) (Src.row (j:=0) F (by simp)) (by simp[fa]) (by omega) (by decide) (by decide) (fun z12 AO=>⟨by exact Sub.d (.d (.k (.d (.d (.d (.k .z)))))),?_⟩))
   refine au F (a_ cZ F fz F F) ?_
   have CB:=(ep (O:=([aq (aD ym) 1 56 1 [(.slice (aD z6) L L)],aq (aD z6) L 3 1 (ints ys),aq tb tc nG 2 (eR c2 im),dz str (fun n:Nat=>Value.int .i64 (n:Int)) m4 fj.zipIdx,aq z12 AO 56 1 ((dm rq)++[(.slice (aD z6) L L)]),aq fb fc 4 1 (cG ((ks.take s).map fin)),oI z5 25 [vN vs,(vI 0),(.slice ob s oc),(.slice fb s fc)],oI z2 25 [(vI 0),(vI 0),nS,nS],oI z1 nG [r0.a,r0.b]]++(cd 3 rq++ju im))) fun w1 hI=>haveI:=et hI;xt w1 (ks.getD s []) im[s] hI.nD Sm (fun it fI=>hI.holds it (am _ (am _ (tD vM fI)))))
   refine cr F F (eN CB F F ?_)
   clear CB
   rintro vr O' ⟨N,rfl,rfl,rfl⟩
   refine⟨by exact Sub.d (.d (.k (.d (.d (.d (.k .z)))))),?_⟩
   refine cr F F (cN (v:=.bool (fin (ks.getD s []))) eB fx F F F (fun Bw=>⟨by exact Sub.d (.d (.d (.k (.d (.d (.d (.k .z))))))),?_⟩))
   refine cr F F (cW 6 eB eB fx F F F F (by simp;omega) (by decide) (Src.row (j:=0) F (by simp)) (by simp[fa]) (by omega) (by decide) (by decide) (fun FT CC=>⟨by exact Sub.d (.d (.d (.k (.d (.d (.d (.k .z))))))),?_⟩))
   refine b_ F F (bN (vs:=[(.slice z12 (s+1) AO)]) 7 fz F F F F ?_)
   refine b_ F F (d_ F F (a_ cZ F dA F F) ?_)
   refine b_ F F (bN (vs:=[(.slice FT (s+1) CC)]) 7 dA F F F F ?_)
   refine cw ?_
   have nF:cG ((fj.take (s+1)).map fin)=cG ((ks.take s).map fin)++[.bool (fin (ks.getD s []))]:=by
    rw[aH (by omega:s<fj.length),bm,show fj.take s=ks.take s by obtain⟨t9,rfl⟩:=uw;rw[List.take_append_of_le_length (by omega)],←sk,show fj.getD s []=fj[s] by rw[av,ap (by omega),Option.getD_some]]
    simp
   refine dx (O':=[aq tb tc nG 2 (eR c2 im),dz str (fun n:Nat=>Value.int .i64 (n:Int)) m4 fj.zipIdx,aq z12 AO 56 1 (dm (rq++[⟨(aD z6),L,ys⟩])),aq FT CC 4 1 (cG ((fj.take (s+1)).map fin)),oI z5 25 [vN vs,(vI 0),(.slice z12 (s+1) AO),(.slice FT (s+1) CC)],oI z2 25 [(vI 0),(vI 0),nS,nS],oI z1 nG [r0.a,r0.b]]++(cd 3 (rq++[⟨(aD z6),L,ys⟩])++ju im)) (by
    rw[nF,show dm (rq++[⟨(aD z6),L,ys⟩])=(dm rq)++[(.slice (aD z6) L L)] by simp[Rec.val,Cz],show cd 3 (rq++[⟨(aD z6),L,ys⟩])=cd 3 rq++[aq (aD z6) L 3 1 (ints ys)] by simp[cd,Rec.sQ]]
    exact qE [aq tb tc nG 2 (eR c2 im),dz str (fun n:Nat=>Value.int .i64 (n:Int)) m4 fj.zipIdx,aq z12 AO 56 1 ((dm rq)++[(.slice (aD z6) L L)]),aq FT CC 4 1 ((cG ((ks.take s).map fin))++[.bool (fin (ks.getD s []))]),oI z5 25 [vN vs,(vI 0),(.slice z12 (s+1) AO),(.slice FT (s+1) CC)],oI z2 25 [(vI 0),(vI 0),nS,nS],oI z1 nG [r0.a,r0.b]] [aq (aD Bw) 1 4 1 [.bool (fin (ks.getD s []))],aq (aD ym) 1 56 1 [(.slice (aD z6) L L)],aq (aD z6) L 3 1 (ints ys),aq tb tc nG 2 (eR c2 im),dz str (fun n:Nat=>Value.int .i64 (n:Int)) m4 fj.zipIdx,aq z12 AO 56 1 ((dm rq)++[(.slice (aD z6) L L)]),aq FT CC 4 1 ((cG ((ks.take s).map fin))++[.bool (fin (ks.getD s []))]),oI z5 25 [vN vs,(vI 0),(.slice z12 (s+1) AO),(.slice FT (s+1) CC)],oI z2 25 [(vI 0),(vI 0),nS,nS],oI z1 nG [r0.a,r0.b]] (cd 3 rq) (ju im) (aq (aD z6) L 3 1 (ints ys)) (by exact Sub.d (.d (.ew [aq (aD z6) L 3 1 (ints ys)] _ (.ew [aq (aD z6) L 3 1 (ints ys)] _ (.ew [aq (aD z6) L 3 1 (ints ys)] _ (.ew [aq (aD z6) L 3 1 (ints ys)] _ (.ew [aq (aD z6) L 3 1 (ints ys)] _ (.ew [aq (aD z6) L 3 1 (ints ys)] _ (.ew [aq (aD z6) L 3 1 (ints ys)] _ (.k .z))))))))))) ?_
   refine a7 (ah F (ad (dy (a:=s) (b:=1) F F (by omega)) (aj F (ae ?_))))
   have AP:x=L:=by omega
   have Sn:ys=lj tr L fj s:=by
    apply List.ext_getElem?
    intro i
    by_cases hi:i<L
    ·rw[yH i (by omega)];simp only[lj,sk];simp[hi]
    ·rw[bZ (by omega),bZ (by simp[lj];omega)]
   have Er: ∀y,y<L→tr (ks.getD s []) y∈fj:=fun y hy=>by rw[pQ,eC];exact .inr (List.mem_map_of_mem (List.mem_range.2 (by omega)))
   have RW:qD tr L fj (s+1) (nums (rq++[⟨(aD z6),L,ys⟩])):=by
    have:=hE.snoc uw Sk Sn (by rw[sk];exact Er)
    simpa[nums]using this
   exact⟨s+1,by omega,_,cj (aZ _),fj,im,rq++[⟨(aD z6),L,ys⟩],tb,z12,FT,tc,AO,CC,F,by rw[xu,om,pQ,AP],Oj,yn,Kl,RW,(.of F)⟩
  have qo: ¬s<qs.length:=by omega
  refine cK ?_
  refine aM ?_
  have Qk:s=ks.length:=by omega
  have rM:rq.length=(nums rq).length:=by simp
  obtain⟨W,hW⟩: ∃W,W=IQ vs (nums rq) (ks.map fin):=⟨_,F⟩
  have F0:HasL (vs:Int) ks.length W (fun u=>fin (u.foldl tr start)):=by rw[hW];exact F1 gv (by rw[hL];exact hF) (by rw[hL,←Qk];exact hE) (by omega)
  have e1:nums rq=W.next:=by rw[hW];rfl
  have e2:(ks.take s).map fin=W.aY:=by rw[hW,bw (by omega)];rfl
  have e3:(vs:Int)=W.vars:=by rw[hW];rfl
  have e4:(0:Int)=W.start:=by rw[hW];rfl
  have e5:s=W.next.length:=by rw[←e1,←rM];omega
  have e6:s=W.aY.length:=by rw[F0.valid.fin,←e5]
  obtain⟨M,hM⟩: ∃m,js W=m:=⟨_,F⟩
  have MZ:fM (vs:Int) ks.length M (fun u=>fin (u.foldl tr start)):=hM▸F0.uW
  obtain⟨z9,Wk⟩: ∃z:DK,z=⟨ob,oc,fb,fc,rq⟩:=⟨_,F⟩
  refine dx (O':=([aq ob oc 56 1 (dm rq),aq fb fc 4 1 (cG ((ks.take s).map fin)),oI z5 25 [vN vs,(vI 0),(.slice ob s oc),(.slice fb s fc)],oI z2 25 [(vI 0),(vI 0),nS,nS],oI z1 nG [r0.a,r0.b]]++cd 3 rq)) (vi _ _ _ _ (by exact Sub.d (.d (.k (.k (.k (.k (.k .z)))))))) ?_
  refine dx (O':=(([aq ob oc 56 1 (dm rq),aq fb fc 4 1 (cG W.aY)]++cd 3 rq)++[oI z5 25 [(vI W.vars),(vI W.start),(.slice ob W.next.length oc),(.slice fb W.aY.length fc)],oI z2 25 [(vI 0),(vI 0),nS,nS],oI z1 nG [r0.a,r0.b]])) (by rw[←e5,←e6,←e2,←e3,←e4];exact gN [aq ob oc 56 1 (dm rq),aq fb fc 4 1 (cG ((ks.take s).map fin))] (cd 3 rq) [oI z5 25 [vN vs,(vI 0),(.slice ob s oc),(.slice fb s fc)],oI z2 25 [(vI 0),(vI 0),nS,nS],oI z1 nG [r0.a,r0.b]]) ?_
  refine s9 (φ:=nums rq=W.next) e1 ?_
  refine dx (O':=[dI 56 4 3 W z9,oI z5 25 (dC W z9),oI z2 25 [(vI 0),(vI 0),nS,nS],oI z1 nG [r0.a,r0.b]]) (by subst Wk;exact Sub.rf) ?_
  refine a7 (ah F (ad (eu 1 cZ F bL F F F) (ao F (bl Cb (aX fun w1 hI=>(haveI:=et hI;Cc w1 W z9 (hI.at (k:=z9) (mG 0 F)) F0.valid (by have:=F0.valid.n4;omega) (M:=M) hM)) F ?_))))
  rintro vr O' ⟨N,rfl,k9,rfl,rfl⟩
  refine ad (bE (vs:=_) F F) (ad (bE (vs:=_) F F) ?_)
  have CD:=fun(w1:World) (hI:Inv w [dI 56 4 3 M k9,dI 56 4 3 W z9,oI z5 25 (dC W z9),oI z2 25 [(vI 0),(vI 0),nS,nS],oI z1 nG [r0.a,r0.b]] w1)=>(haveI:=et hI;nl w1 cb eb en ec vs B (hI.sl eV) M k9 0)
  refine eG F (eW so (dB.pure CD) F (fun z _=>⟨F,fun _=>z ⟨F,by have:=MZ.len;omega⟩⟩) ?_)
  clear CD
  rintro vr O' ⟨N,rfl,rfl,rfl,_,yI⟩
  refine ao F (bN (vs:=(dC M k9)) 3 bL F F F F ?_)
  refine ae (aK (aA ?_))
  refine cM (i:=3) hq7 cZ F bL F F F ?_
  exact⟨[dI 56 4 3 M k9],(by exact Sub.k .z),M,k9,F,F,⟨MZ.toHasL.le yI,MZ.min⟩,CE hF (Qk▸hE) Oi⟩
theorem CF:YD 154:=ExB.1
end Go.Proofs.YtgdbfideeeegmaaGreatDoor

namespace Go.Proofs.YtgdbfideeeegmaaGreatDoor
open Go.Lx Go.RowKit _root_.Go.Proofs.Tryz
theorem F2 (w:World) [dE Tryz.prog w] (lb:Option Addr) (lc:Nat) (l:List Int) (hL:Sl w lb (ints l)) (hn: ∀n∈l,mH n) (hm:13*l.length≤800000):
  cH Tryz.prog 112 [nS,.slice lb l.length lc] w fun v N=> ∃b' c',v=.slice b' (iO l).length c'∧N=[aq b' c' 5 1 (di (iO l))]:=by
 refine bW.eX 5 1 ?_
 have h:=Qd w none lb 0 0 lc [] l F hL hn (by omega)
 rw[Nat.zero_add,dn]at h
 exact h
theorem Kq (base:World) [dE Tryz.prog base] (a:cU) (ka:DK) (ha:At base a ka) (va:Valid a) (za:Nat) (tE:Sl base (aD za) (dC a ka)) (b:cU) (kb:DK) (hb:At base b kb) (vb:Valid b) (zb:Nat) (F3:Sl base (aD zb) (dC b kb)) (s:Nat) (hs:s<a.next.length) (sb:Option Addr) (c cv:Nat) (l:List Nat) (JD:l.Pairwise (· < ·)) (HS: ∀t∈l,t<b.next.length):
  bW Tryz.prog base 153 [.agg #[vI ((s:Nat):Int),.slice sb l.length cv],(dW (aD za) 0),(dW (aD zb) 0)] [aq sb c 3 1 (bS l)] (fun v O'=> ∃b' c' c2,v=.agg #[vI ((s:Nat):Int),.slice b' (vj a b s l).length c']∧O'=[aq b' c2 3 1 (bS (vj a b s l))]):=by
 refine aF func153 F ntmps153 F ?_
 refine ai (ao F (dG (cs:=[vI ((s:Nat):Int),(.slice sb l.length cv)]) F F (fun z1=>?_)))
 refine ao F (bs lQ F (fun z2=>?_))
 refine ae (aM (ai (ad (cy cZ F dA F F (aL tE) (by show _<4;decide)) (ad (de eB F F (aL tE) F) (ad (a_ nO F bj F F) (ad (bi 1 dP F F F F) (ad (dU (i:=s) eB fx F F (aL ha.aY) (by rw[va.fin];exact hs) (by rw[ar,va.fin];exact hs)) (ad (de AG F F (aL ha.aY) (o5 va hs)) (ae (T.cond F (fun hc=>?_) (fun hc=>?_)))))))))))
 ·refine a7 ?_
  refine ad (a_ nO F cV F F) (ad (bi 1 cL F F F F) (ad (cy cZ F bj F F (aL F3) (by show _<4;decide)) (ad (de dP F F (aL F3) (show _=some (Value.int .i64 ((b.start.toNat:Nat):Int)) by rw[cR vb.s0];rfl)) (ao F (bl Kr (na [2] (Qh base b.next.length sb c cv l b.start.toNat JD HS (eE vb.toVal) (by have:=eT (JD.imp fun h=>Nat.ne_of_lt h) HS;have:=vb.n4;omega))) F ?_)))))
  rintro vr O' ⟨A1,rfl,wb,wc,PD,rfl,rfl⟩
  refine ad (a_ nO F cV F F) (ao F (bN (vs:=[(.slice wb ((AN b.next.length l b.start.toNat).length) wc)]) 2 cV F F F F ?_))
  refine ae (ai (ad (eu 2 nO F lQ F F F) (ao F (bN (vs:=[vI ((s:Nat):Int),(.slice wb ((AN b.next.length l b.start.toNat).length) wc)]) 1 lQ F F F F ?_))))
  refine ae (aK (aA ?_))
  refine cM (i:=1) Tryz.results153 nO F lQ F F F ?_
  exact⟨[aq wb PD 3 1 (bS (AN b.next.length l b.start.toNat))],(by exact Sub.k .z),wb,wc,PD,by unfold vj;rw[aO hc];rfl,by unfold vj;rw[aO hc]⟩
 refine aE (ai (ad (eu 1 nO F lQ F F F) (ao F (bN (vs:=[vI ((s:Nat):Int),(.slice sb l.length cv)]) 0 lQ F F F F ?_))))
 refine ae (aK (aA ?_))
 refine cM (i:=0) Tryz.results153 nO F lQ F F F ?_
 exact⟨[aq sb c 3 1 (bS l)],(by exact Sub.d (.d (.k .z))),sb,cv,c,by unfold vj;rw[az (by rw[hc];simp)];rfl,by unfold vj;rw[az (by rw[hc];simp)]⟩
theorem Ol (w:World) [dE Tryz.prog w] (s:Nat) (hs:s<4096) (sb:Option Addr) (c:Nat) (l:List Nat) (hS:Sl w sb (bS l)) (hl: ∀t∈l,t<4096) (HS:l.length≤4096):
  cH Tryz.prog 155 [.agg #[vI ((s:Nat):Int),.slice sb l.length c]] w fun v N=>v=str (zI (s,l))∧N=[]:=by
 refine aF func155 F ntmps155 F ?_
 let eP:List Value:=[vI ((s:Nat):Int),(.slice sb l.length c)]
 refine ai (ao F (dG (cs:=eP) F F (fun z1=>?_)))
 refine aj F (ae (aM ?_))
 refine fD [(0,0),(1,0),(4,0),(5,0),(2,1),(3,1),(6,2),(7,2),(8,2)] ?_
 refine au F (a_ nO F bj F F) (au F (bi 0 dP F F F F) (au F (a_ nO F cV F F) (au F (bi 0 cL F F F F) ?_)))
 refine cr F F (cN (v:=vI ((s:Nat):Int)) cL bj F F F (fun z2=>⟨by exact Sub.d (.k .z),?_⟩))
 refine cr F F (bl ux (aX fun w1 hI=>(haveI:=et hI;F2 w1 (aD z2) 1 [(s:Int)] (hI.ii (mG 0 F)) (fun n hn=>by simp at hn;subst hn;exact nm (by omega)) (by simp))) F ?_)
 rintro vr O' ⟨N,rfl,jb,jc,rfl,rfl⟩
 refine⟨by exact Sub.d (.d (.k .z)),?_⟩
 have u_:=bW.under (A:=[aq jb jc 5 1 (di (iO [(s:Int)]))]) (B:=[aq (aD z2) 1 3 1 [vI ((s:Nat):Int)],oI z1 208 eP]) (O:=[aq jb jc 5 1 (di (iO [(s:Int)])),aq (aD z2) 1 3 1 [vI ((s:Nat):Int)],oI z1 208 eP]) (show bW _ _ _ _ _ (fun v O'=> ∃b' c',v=.slice b' (zI (s,l)).length c'∧O'=[aq b' c' 5 1 (di (zI (s,l)))])from by
   have h9:=Qd w jb sb jc (iO [(s:Int)]).length c (iO [(s:Int)]) (l.map fun y:Nat=>(y:Int)) F (by rw[gl];exact hS) (fun n hn=>by obtain⟨y,hy,rfl⟩:=List.mem_map.1 hn;exact nm (by have:=hl y hy;omega)) (by rw[ar];have:=pu (l:=[(s:Int)]) (fun n hn=>by simp at hn;subst hn;exact nm (by omega));simp only[bo,bV]at this;omega)
   rw[ar,←aw,←sq]at h9
   exact h9) (by exact Sub.rf)
 refine b_ F F (bl ux u_ F ?_)
 clear u_
 rintro vr O' ⟨A1,rfl,YE,YF,rfl,rfl⟩
 refine b_ F F (d_ F F (BS (l:=zI (s,l)) lh ve fA F (mG 0 F) F) ?_)
 refine b_ F F (d_ F F (cx F) ?_)
 refine cw ?_
 refine aK (aA ?_)
 refine aS (str (zI (s,l))) Tryz.results155 F ?_
 exact⟨[],Sub.z,F,F⟩
theorem Ks (w:World) [dE Tryz.prog w] (a:cU) (ka:DK) (ha:At w a ka) (va:Valid a) (za:Nat) (tE:Sl w (aD za) (dC a ka)) (b:cU) (kb:DK) (hb:At w b kb) (vb:Valid b) (zb:Nat) (F3:Sl w (aD zb) (dC b kb)) (yJ:a.vars=b.vars) (zf:Nat) (Wl:Sl w (aD zf) [(.func (.func 153) #[] #[(dW (aD za) 0),(dW (aD zb) 0)])]) (s:Nat) (hs:s<a.next.length) (sb:Option Addr) (c:Nat) (l:List Nat) (hS:Sl w sb (bS l)) (JD:l.Pairwise (· < ·)) (hl: ∀t∈l,t<b.next.length) (x:Nat) (hx:x<eh a):
  cH Tryz.prog 156 [.agg #[vI ((s:Nat):Int),.slice sb l.length c],v8 x,(dW (aD zf) 0),(dW (aD za) 0),(dW (aD zb) 0)] w fun v N=> ∃b' c' c2,v=.agg #[vI ((fm a s x:Nat):Int),.slice b' (vj a b (fm a s x) (fU b l x)).length c']∧N=[aq b' c2 3 1 (bS (vj a b (fm a s x) (fU b l x)))]:=by
 refine aF func156 F ntmps156 F ?_
 have Nk:=ha.rows.1
 obtain⟨v1,c1,g1,s1⟩:=ha.rows.get hs
 have Kg:a.next[s].length=eh a:=va.len _ (aQ hs)
 have yY:x<a.next[s].length:=by rw[Kg];exact hx
 have Uw:x<eh b:=by unfold eh at hx⊢;rw[←yJ];exact hx
 have HS:=eT (JD.imp fun h=>Nat.ne_of_lt h) hl
 have hb4:=vb.n4
 have M0:=np b l x
 refine ai (ao F (dG (cs:=[vI ((s:Nat):Int),(.slice sb l.length c)]) F F (fun z1=>?_)))
 refine ao F (bs lQ F (fun z2=>?_))
 refine ae (aM ?_)
 refine T.ds [oI z2 208 [(vI 0),nS],oI z1 208 [vI ((s:Nat):Int),(.slice sb l.length c)]] [(0,0),(1,0),(2,0),(3,0),(4,0),(5,0),(6,0),(7,0),(8,0),(9,0),(10,0),(11,0),(12,0),(13,0),(14,1),(15,0),(16,2),(17,2)] (by exact Sub.rf) ?_
 refine au F (de Qm F F (aL Wl) F) (au F (cy cZ F fz F F (aL tE) (by show _<4;decide)) (au F (de e_ F F (aL tE) F) (au F (a_ nO F bj F F) (au F (bi 1 dP F F F F) (au F (dU (i:=s) e_ cV F F (aL ha.outer) hs (Nk▸hs)) (au F (de cL F F (aL ha.outer) g1) (au F (aN F) ?_)))))))
 refine au F (dU (i:=x) cL bj F F (aL s1) yY (by rw[ar];exact yY)) (au F (de dP F F (aL s1) (wH va hs hx)) (au F (eO (vs:=(dC b kb)) cZ F bL F F (br _) (aL F3) (fun j hj=>by rw[Nat.zero_add];exact ap hj)) (au F (a_ nO F cV F F) ?_)))
 refine au F (bi 1 cL F F F F) (au F (aN F) ?_)
 refine cr F F (bl Kt (aX fun w1 hI=>(haveI:=et hI;Qe w1 b kb (hI.pR hb) vb sb c l (hI.sl hS) hl (by omega) x Uw)) F ?_)
 rintro vr O' ⟨N,rfl,tb,tc,rfl,rfl⟩
 refine⟨by exact Sub.d (.k (.k .z)),?_⟩
 refine au F (cE (cs:=[vI ((fm a s x:Nat):Int),(.slice tb ((fU b l x).length) tc)]) F4 lQ (by kernel_rfl)) ?_
 have xx:=cP (first:=[]) (args:=[.agg #[vI ((fm a s x:Nat):Int),.slice tb (fU b l x).length tc]]) (gr:=[(dW (aD za) 0),(dW (aD zb) 0)]) Ku (bW.under (A:=[aq tb tc 3 1 (bS (fU b l x))]) (B:=[oI z2 208 [(vI 0),nS],oI z1 208 [vI ((s:Nat):Int),(.slice sb l.length c)]]) (O:=[aq tb tc 3 1 (bS (fU b l x)),oI z2 208 [(vI 0),nS],oI z1 208 [vI ((s:Nat):Int),(.slice sb l.length c)]]) (Kq w a ka ha va za tE b kb hb vb zb F3 (fm a s x) (va.gY hs hx).1 tb tc tc (fU b l x) M0.1 M0.2) (by exact Sub.rf))
 refine b_ F F (eN xx F F ?_)
 clear xx
 rintro vr O' ⟨A1,rfl,eb,ec,ec2,rfl,rfl⟩
 refine b_ F F (bN (vs:=[vI ((fm a s x:Nat):Int),(.slice eb ((vj a b (fm a s x) (fU b l x)).length) ec)]) 1 lQ F F F F ?_)
 refine cw ?_
 refine aK (aA ?_)
 refine cM (i:=1) Tryz.results156 nO F lQ F F F ?_
 exact⟨[aq eb ec2 3 1 (bS (vj a b (fm a s x) (fU b l x)))],(by exact Sub.k .z),eb,ec,ec2,F,F⟩
theorem Om (w:World) [dE Tryz.prog w] (b:cU) (kb:DK) (hb:At w b kb) (vb:Valid b) (zb:Nat) (F3:Sl w (aD zb) (dC b kb)) (s:Nat) (sb:Option Addr) (c:Nat) (l:List Nat) (hS:Sl w sb (bS l)) (hl: ∀t∈l,t<b.next.length) (HS:l.length≤4096):
  cH Tryz.prog 157 [.agg #[vI ((s:Nat):Int),.slice sb l.length c],(dW (aD zb) 0)] w fun v N=>v=.bool (Sp b (s,l))∧N=[]:=by
 refine aF func157 F ntmps157 F ?_
 refine ai (ao F (dG (cs:=[vI ((s:Nat):Int),(.slice sb l.length c)]) F F (fun z1=>?_)))
 refine aj F (ae (ai ?_))
 refine ad (eO (vs:=(dC b kb)) cZ F bL F F (br _) (aL F3) (fun j hj=>by rw[Nat.zero_add];exact ap hj)) (ad (a_ nO F cV F F) (ad (bi 0 cL F F F F) ?_))
 refine ao F (bl AQ (aX fun w1 hI=>(haveI:=et hI;wj w1 b kb (hI.pR hb) vb sb c l (hI.sl hS) hl (by omega))) F ?_)
 rintro vr O' ⟨N,rfl,rfl,rfl⟩
 refine aj F (ae (aK (aA ?_)))
 refine aS (.bool (l.any (dr b))) Tryz.results157 F ?_
 exact⟨[],Sub.z,F,F⟩
end Go.Proofs.YtgdbfideeeegmaaGreatDoor


/- Contracts of functions of the program, and what they answer. Conditions: those each theorem names. -/
import Derived.Test.YtgdbfideeeegmaaGreatDoorA2
import Derived.Test.YtgdbfideeeegmaaGreatDoorA1
import Derived.Shelf.Strconv.Itoa3
import Derived.Test.YtgdbfideeeegmaaGreatDoorProg
set_option linter.unusedSectionVars false
set_option linter.unusedSimpArgs false
set_option linter.unusedVariables false
set_option linter.unnecessarySimpa false
set_option maxHeartbeats 8000000
set_option maxRecDepth 20000
namespace Go.Proofs.YtgdbfideeeegmaaGreatDoor
open Go.Lx Go.RowKit _root_.Go.Proofs.Tryz
theorem FY (w:World) (b1 b2:Option Addr) (c1 c2:Nat) (xs ys:List Int) (h1:Sl w b1 (ints xs)) (h2:Sl w b2 (ints ys)) (hb:xs.length<9223372036854775807):
  bI Tryz.prog 69 [(.slice b1 xs.length c1),(.slice b2 ys.length c2)] w fun v N=>v=.bool (decide (xs=ys))∧N=[]:=by
 refine aw func69 F ntmps69 F ?_
 refine ai (aj F (ae (aB (ai (ah F (ad (bS underlying56 F) (ah F (ad (bS underlying56 F) (ad (cT F F) (ae (aC F (fun hc=>?_) (fun hc=>?_))))))))))))
 ·have jJ:xs.length≠ys.length:=by omega
  have gv:xs.length≠ys.length:=by omega
  refine ai (aj F (ae (aA ?_)))
  refine aE (.bool false) Tryz.results69 F ?_
  exact⟨congrArg Value.bool (decide_eq_false (fun e=>gv (by rw[e]))).symm,F⟩
 have ta: ¬xs.length≠ys.length:=by omega
 have gv:xs.length=ys.length:=by omega
 refine av (aB (ai (aj F (ae (aG ?_)))))
 refine dm (fun(k:Nat) ρ O=>O=[]∧k≤xs.length∧xs.take k=ys.take k∧cw [(0,(.slice b1 xs.length c1)),(1,(.slice b2 ys.length c2)),(5,vI (k:Int))] ρ) (fun k=>xs.length-k) 0 ?_ ?_
 ·exact⟨F,Nat.zero_le _,F,⟨F,F,F,trivial⟩⟩
 rintro k ρ O ⟨rfl,hk,he,hH⟩
 obtain⟨fE,rfl⟩:=hH.elim
 clear hH
 refine aB (ai (ah F (ah F (ad (bS underlying56 F) (ad (bT F F) (ae (aC F (fun hc=>?_) (fun hc=>?_))))))))
 ·have nF:k<xs.length:=by omega
  have eV:k<xs.length:=by omega
  have jS:k<ys.length:=by omega
  obtain⟨Zi,Zj,rfl⟩:=h1.addr (i:=k) (by simpa using eV)
  obtain⟨Zk,Zl,rfl⟩:=h2.addr (i:=k) (by simpa using jS)
  refine av (aB (aG (aB ?_)))
  refine eD [(0,0),(1,0),(2,0),(3,0),(4,0),(5,0),(6,0),(7,0),(8,0)] ?_
  refine ao F (az F) (ao F (az F) (ao F (w6 underlying56 aO F F eV) (ao F (kP underlying3 F F h1 (fp eV)) (ao F (az F) (ao F (az F) (ao F (w6 underlying56 aO F F jS) (ao F (kP underlying3 F F h2 (fp jS)) (ao F (cT F F) ?_))))))))
  refine bw ?_
  refine aC (p:= ¬xs[k]=ys[k]) F (fun hc=>?_) (fun hc=>?_)
  ·refine aB ?_
   refine aJ (aj F (ae (aA ?_)))
   refine aE (.bool false) Tryz.results69 F ?_
   exact⟨congrArg Value.bool (decide_eq_false (fun e=>hc (by subst e;rfl))).symm,F⟩
  refine av (aJ (ah F (ad (jD F F (by omega)) (aj F (ae ?_)))))
  refine⟨k+1,by omega,F,by omega,?_,⟨F,F,F,trivial⟩⟩
  rw[List.take_succ_eq_append_getElem eV,List.take_succ_eq_append_getElem jS,he]
  exact congrArg _ (congrArg (fun z=>[z]) (Classical.not_not.1 hc))
 have vu: ¬k<xs.length:=by omega
 refine bJ ?_
 refine ai (aj F (ae (aA ?_)))
 refine aE (.bool true) Tryz.results69 F ?_
 exact⟨congrArg Value.bool (decide_eq_true (show xs=ys by rw[List.take_of_length_le (by omega),List.take_of_length_le (by omega)]at he;exact he)).symm,F⟩
theorem vH (w:World) (b1 b2:Option Addr) (c1 c2:Nat) (xs ys:List Bool) (h1:Sl w b1 (bf xs)) (h2:Sl w b2 (bf ys)) (hb:xs.length<9223372036854775807):
  bI Tryz.prog 44 [(.slice b1 xs.length c1),(.slice b2 ys.length c2)] w fun v N=>v=.bool (decide (xs=ys))∧N=[]:=by
 refine aw func44 F ntmps44 F ?_
 refine ai (aj F (ae (aB (ai (ah F (ad (bS underlying23 F) (ah F (ad (bS underlying23 F) (ad (cT F F) (ae (aC F (fun hc=>?_) (fun hc=>?_))))))))))))
 ·have jJ:xs.length≠ys.length:=by omega
  have gv:xs.length≠ys.length:=by omega
  refine ai (aj F (ae (aA ?_)))
  refine aE (.bool false) Tryz.results44 F ?_
  exact⟨congrArg Value.bool (decide_eq_false (fun e=>gv (by rw[e]))).symm,F⟩
 have ta: ¬xs.length≠ys.length:=by omega
 have gv:xs.length=ys.length:=by omega
 refine av (aB (ai (aj F (ae (aG ?_)))))
 refine dm (fun(k:Nat) ρ O=>O=[]∧k≤xs.length∧xs.take k=ys.take k∧cw [(0,(.slice b1 xs.length c1)),(1,(.slice b2 ys.length c2)),(5,vI (k:Int))] ρ) (fun k=>xs.length-k) 0 ?_ ?_
 ·exact⟨F,Nat.zero_le _,F,⟨F,F,F,trivial⟩⟩
 rintro k ρ O ⟨rfl,hk,he,hH⟩
 obtain⟨fE,rfl⟩:=hH.elim
 clear hH
 refine aB (ai (ah F (ah F (ad (bS underlying23 F) (ad (bT F F) (ae (aC F (fun hc=>?_) (fun hc=>?_))))))))
 ·have nF:k<xs.length:=by omega
  have eV:k<xs.length:=by omega
  have jS:k<ys.length:=by omega
  obtain⟨Zi,Zj,rfl⟩:=h1.addr (i:=k) (by simpa using eV)
  obtain⟨Zk,Zl,rfl⟩:=h2.addr (i:=k) (by simpa using jS)
  refine av (aB (aG (aB ?_)))
  refine eD [(0,0),(1,0),(2,0),(3,0),(4,0),(5,0),(6,0),(7,0),(8,0)] ?_
  refine ao F (az F) (ao F (az F) (ao F (w6 underlying23 dU F F eV) (ao F (kP underlying4 F F h1 (fY eV)) (ao F (az F) (ao F (az F) (ao F (w6 underlying23 dU F F jS) (ao F (kP underlying4 F F h2 (fY jS)) (ao F (G1 underlying4 F F) ?_))))))))
  refine bw ?_
  refine aC (p:= ¬xs[k]=ys[k]) (congrArg Value.bool (by cases xs[k]<;>cases ys[k]<;>rfl)) (fun hc=>?_) (fun hc=>?_)
  ·refine aB ?_
   refine aJ (aj F (ae (aA ?_)))
   refine aE (.bool false) Tryz.results44 F ?_
   exact⟨congrArg Value.bool (decide_eq_false (fun e=>hc (by subst e;rfl))).symm,F⟩
  refine av (aJ (ah F (ad (jD F F (by omega)) (aj F (ae ?_)))))
  refine⟨k+1,by omega,F,by omega,?_,⟨F,F,F,trivial⟩⟩
  rw[List.take_succ_eq_append_getElem eV,List.take_succ_eq_append_getElem jS,he]
  exact congrArg _ (congrArg (fun z=>[z]) (Classical.not_not.1 hc))
 have vu: ¬k<xs.length:=by omega
 refine bJ ?_
 refine ai (aj F (ae (aA ?_)))
 refine aE (.bool true) Tryz.results44 F ?_
 exact⟨congrArg Value.bool (decide_eq_true (show xs=ys by rw[List.take_of_length_le (by omega),List.take_of_length_le (by omega)]at he;exact he)).symm,F⟩
theorem xG (w:World) (b1 b2:Option Addr) (c1 c2:Nat) (vs us:List Value) (rs ss:List (List Int)) (h1:Sl w b1 vs) (Zm:oe w vs rs) (h2:Sl w b2 us) (Qd:oe w us ss) (hb:rs.length<9223372036854775807) (rQ: ∀r∈rs,r.length<9223372036854775807):
  bI Tryz.prog 43 [.slice b1 rs.length c1,.slice b2 ss.length c2] w fun v N=>v=.bool (decide (rs=ss))∧N=[]:=by
 refine aw func43 F ntmps43 F ?_
 refine ai (aj F (ae (aB (ai (ah F (ad (bS underlying22 F) (ah F (ad (bS underlying22 F) (ad (cT F F) (ae (aC F (fun hc=>?_) (fun hc=>?_))))))))))))
 ·have jJ:rs.length≠ss.length:=by omega
  have gv:rs.length≠ss.length:=by omega
  refine ai (aj F (ae (aA ?_)))
  refine aE (.bool false) Tryz.results43 F ?_
  exact⟨congrArg Value.bool (decide_eq_false (fun e=>gv (by rw[e]))).symm,F⟩
 have ta: ¬rs.length≠ss.length:=by omega
 have gv:rs.length=ss.length:=by omega
 refine av (aB (ai (aj F (ae (aG ?_)))))
 refine dm (fun(k:Nat) ρ O=>O=[]∧k≤rs.length∧rs.take k=ss.take k∧cw [(0,(.slice b1 rs.length c1)),(1,(.slice b2 ss.length c2)),(5,vI (k:Int))] ρ) (fun k=>rs.length-k) 0 ?_ ?_
 ·exact⟨F,Nat.zero_le _,F,⟨F,F,F,trivial⟩⟩
 rintro k ρ O ⟨rfl,hk,he,hH⟩
 obtain⟨fE,rfl⟩:=hH.elim
 clear hH
 refine aB (ai (ah F (ah F (ad (bS underlying22 F) (ad (bT F F) (ae (aC F (fun hc=>?_) (fun hc=>?_))))))))
 ·have nF:k<rs.length:=by omega
  have eV:k<rs.length:=by omega
  have jS:k<ss.length:=by omega
  obtain⟨Vi,Vj,g1,s1⟩:=Zm.get eV
  obtain⟨vb2,vc2,g2,s2⟩:=Qd.get jS
  obtain⟨Zi,Zj,rfl⟩:=h1.addr (i:=k) (by rw[Zm.1];exact eV)
  obtain⟨Zk,Zl,rfl⟩:=h2.addr (i:=k) (by rw[Qd.1];exact jS)
  refine av (aB (aG (aB ?_)))
  refine eD [(0,0),(1,0),(2,0),(3,0),(4,0),(5,0),(6,0),(7,0),(8,2),(9,2)] ?_
  refine ao F (az F) (ao F (az F) (ao F (w6 underlying22 bV F F eV) (ao F (kP underlying56 F F h1 g1) (ao F (az F) (ao F (az F) (ao F (w6 underlying22 bV F F jS) (ao F (kP underlying56 F F h2 g2) ?_)))))))
  have mw:=fun(w1:World) (hI:Inv w [] w1)=>FY w1 Vi vb2 Vj vc2 rs[k] ss[k] (hI.sl s1) (hI.sl s2) (rQ _ (List.getElem_mem eV))
  refine bq F F (aP UD (aI mw) F ?_)
  clear mw
  rintro v O' ⟨N,rfl,rfl,rfl⟩
  refine bq F F (dw F F (gy F) ?_)
  refine bw ?_
  refine aC (p:= ¬rs[k]=ss[k]) (congrArg Value.bool (by simp)) (fun hc=>?_) (fun hc=>?_)
  ·refine aB ?_
   refine aJ (aj F (ae (aA ?_)))
   refine aE (.bool false) Tryz.results43 F ?_
   exact⟨congrArg Value.bool (decide_eq_false (fun e=>hc (by subst e;rfl))).symm,F⟩
  refine av (aJ (ah F (ad (jD F F (by omega)) (aj F (ae ?_)))))
  refine⟨k+1,by omega,F,by omega,?_,⟨F,F,F,trivial⟩⟩
  rw[List.take_succ_eq_append_getElem eV,List.take_succ_eq_append_getElem jS,he]
  exact congrArg _ (congrArg (fun z=>[z]) (Classical.not_not.1 hc))
 have vu: ¬k<rs.length:=by omega
 refine bJ ?_
 refine ai (aj F (ae (aA ?_)))
 refine aE (.bool true) Tryz.results43 F ?_
 exact⟨congrArg Value.bool (decide_eq_true (show rs=ss by rw[List.take_of_length_le (by omega),List.take_of_length_le (by omega)]at he;exact he)).symm,F⟩
theorem zm (w:World) (d e:bU) (BI BJ BK mN:Option Addr) (EX EY EZ nM:Nat) (vs us:List Value) (h1:fZ w d BI vs BK) (h2:fZ w e BJ us mN) (hb:d.next.length<9223372036854775807) (rQ: ∀r∈d.next,r.length<9223372036854775807) (tN:d.ax.length<9223372036854775807):
  bI Tryz.prog 16 [.agg (dB d BI EX BK EZ).toArray,.agg (dB e BJ EY mN nM).toArray] w fun v N=>v=.bool (decide (d=e))∧True:=by
 refine aw func16 F ntmps16 F ?_
 refine ai (ak F (cH (cs:=[(vI d.vars),(vI d.start),(.slice BI d.next.length EX),(.slice BK d.ax.length EZ)]) F F (fun b1=>?_)))
 refine ak F (cH (cs:=[(vI e.vars),(vI e.start),(.slice BJ e.next.length EY),(.slice mN e.ax.length nM)]) F F (fun b2=>?_))
 refine aj F (ae (ai (ad (aN underlying25 F aO F F) (ad (aQ 1 underlying3 F F F F) (ad (aN underlying25 F aO F F) (ad (aQ 0 underlying3 F F F F) ?_))))))
 by_cases e1:d.vars=e.vars
 ·refine ad (aq (aZ F F) (decide_eq_true e1)) ?_
  refine ah F (au F F (aN underlying25 F aO F F) (au F F (aQ 1 underlying3 F F F F) (au F F (aN underlying25 F aO F F) (au F F (aQ 0 underlying3 F F F F) ?_))))
  by_cases e2:d.start=e.start
  ·refine au F F (aq (aZ F F) (decide_eq_true e2)) ?_
   refine ad (bu F F) (ah F (au F F (aN underlying25 F dM F F) (au F F (aQ 1 underlying22 F F F F) (au F F (aN underlying25 F dM F F) (au F F (aQ 0 underlying22 F F F F) ?_)))))
   by_cases e3:d.next=e.next
   ·let eQ:List Lx.Item:=[oI b2 25 [(vI e.vars),(vI e.start),(.slice BJ e.next.length EY),(.slice mN e.ax.length nM)],oI b1 25 [(vI d.vars),(vI d.start),(.slice BI d.next.length EX),(.slice BK d.ax.length EZ)]]
    have Jk:=fun(w1:World) (hI:Inv w eQ w1)=>xG w1 BI BJ EX EY vs us d.next e.next (hI.sl h1.outer) (hI.rows h1.rows) (hI.sl h2.outer) (hI.rows h2.rows) hb rQ
    refine fU F F F (aP NR (aI Jk) F ?_)
    clear Jk
    rintro v O' ⟨N,rfl,rfl,rfl⟩
    rw[decide_eq_true e3]
    refine ad (bu F F) (ah F (au F F (aN underlying25 F cA F F) (au F F (aQ 1 underlying23 F F F F) (au F F (aN underlying25 F cA F F) (au F F (aQ 0 underlying23 F F F F) ?_)))))
    by_cases e4:d.ax=e.ax
    ·have rj:=fun(w1:World) (hI:Inv w eQ w1)=>vH w1 BK mN EZ nM d.ax e.ax (hI.sl h1.ax) (hI.sl h2.ax) tN
     refine fU F F F (aP NS (aI rj) F ?_)
     clear rj
     rintro v O' ⟨N,rfl,rfl,rfl⟩
     rw[decide_eq_true e4]
     refine ad (bu F F) (aj F (ae (aA ?_)))
     refine aE (.bool true) Tryz.results16 F ?_
     refine⟨congrArg Value.bool (decide_eq_true ?_).symm,trivial⟩
     cases d;cases e;simp only at e1 e2 e3 e4;rw[e1,e2,e3,e4]
    have rj:=fun(w1:World) (hI:Inv w [oI b2 25 [(vI e.vars),(vI e.start),(.slice BJ e.next.length EY),(.slice mN e.ax.length nM)],oI b1 25 [(vI d.vars),(vI d.start),(.slice BI d.next.length EX),(.slice BK d.ax.length EZ)]] w1)=>vH w1 BK mN EZ nM d.ax e.ax (hI.sl h1.ax) (hI.sl h2.ax) tN
    refine fU F F F (aP NS (aI rj) F ?_)
    clear rj
    rintro v O' ⟨N,rfl,rfl,rfl⟩
    rw[decide_eq_false e4]
    refine ad (bu F F) (aj F (ae (aA ?_)))
    refine aE (.bool false) Tryz.results16 F ?_
    exact⟨congrArg Value.bool (decide_eq_false (fun q=>e4 (congrArg bU.ax q))).symm,trivial⟩
   have Jk:=fun(w1:World) (hI:Inv w [oI b2 25 [(vI e.vars),(vI e.start),(.slice BJ e.next.length EY),(.slice mN e.ax.length nM)],oI b1 25 [(vI d.vars),(vI d.start),(.slice BI d.next.length EX),(.slice BK d.ax.length EZ)]] w1)=>xG w1 BI BJ EX EY vs us d.next e.next (hI.sl h1.outer) (hI.rows h1.rows) (hI.sl h2.outer) (hI.rows h2.rows) hb rQ
   refine fU F F F (aP NR (aI Jk) F ?_)
   clear Jk
   rintro v O' ⟨N,rfl,rfl,rfl⟩
   rw[decide_eq_false e3]
   refine ad (bu F F) (ah F (aF F F (aF F F (aF F F (aF F F (aF F F (ad (bl F F) (aj F (ae (aA ?_))))))))))
   refine aE (.bool false) Tryz.results16 F ?_
   exact⟨congrArg Value.bool (decide_eq_false (fun q=>e3 (congrArg bU.next q))).symm,trivial⟩
  refine au F F (aq (aZ F F) (decide_eq_false e2)) (ad (bu F F) (ah F (aF F F (aF F F (aF F F (aF F F (aF F F (ad (bl F F) (ah F ?_)))))))))
  refine aF F F (aF F F (aF F F (aF F F (aF F F (ad (bl F F) (aj F (ae (aA ?_))))))))
  refine aE (.bool false) Tryz.results16 F ?_
  exact⟨congrArg Value.bool (decide_eq_false (fun q=>e2 (congrArg bU.start q))).symm,trivial⟩
 refine ad (aq (aZ F F) (decide_eq_false e1)) (ah F (aF F F (aF F F (aF F F (aF F F (aF F F (ad (bl F F) (ah F (aF F F ?_)))))))))
 refine aF F F (aF F F (aF F F (aF F F (ad (bl F F) (ah F (aF F F (aF F F (aF F F ?_))))))))
 refine aF F F (aF F F (ad (bl F F) (aj F (ae (aA ?_)))))
 refine aE (.bool false) Tryz.results16 F ?_
 exact⟨congrArg Value.bool (decide_eq_false (fun q=>e1 (congrArg bU.vars q))).symm,trivial⟩
end Go.Proofs.YtgdbfideeeegmaaGreatDoor

namespace Go.Proofs.YtgdbfideeeegmaaGreatDoor
open Go.Lx Go.RowKit _root_.Go.Proofs.Tryz
theorem GQ (w:World) (v:Int) (h0:0≤v) (h6:v≤6):bI Tryz.prog 31 [vI v] w fun x N=>x=vN (2^v.toNat)∧N=[]:=by
 refine aw func31 F ntmps31 F ?_
 refine ai (aj F (ae (ai (ah F (ad (et underlying3 underlying101 F (show IntKind.u64.wrap v=v by unfold IntKind.wrap;simp[IntKind.bits,IntKind.signed];omega)) (ad (kV (v:=v.toNat) F (by show Value.int _ v=_;rw[Int.toNat_of_nonneg h0]) (by omega)) (aj F (ae (aA ?_)))))))))
 refine aE (vN (2^v.toNat)) Tryz.results31 F ?_
 exact⟨F,F⟩
theorem E6 (w:World) (b:Option Addr) (c:Nat) (xs:List Int) (h:Sl w b (ints xs)) (h0:0<xs.length) (hb:xs.length<9223372036854775807):bI Tryz.prog 121 [.slice b xs.length c] w fun v N=>(∃m,v=vI m∧m∈xs∧ ∀x∈xs,m≤x)∧N=[]:=by
 refine aw func121 F ntmps121 F ?_
 refine ai (aj F (ae (aB (ai (ah F (ad (bS underlying56 F) (ad (bT F F) (ae (aC F (fun hc=>?_) (fun hc=>?_))))))))))
 ·exact absurd hc (by omega)
 have V3: ¬xs.length<1:=by omega
 refine av (ai (ah F (ad (cV (i:=0) underlying56 aO F F (ay h)) (ad (cd underlying3 F F (ay h) fp) (aj F (ae (aB (ai (aj F (ae (aG ?_)))))))))))
 refine dm (fun(k:Nat) ρ O=> ∃(m:Int),O=[]∧1≤k∧k≤xs.length∧m∈xs.take k∧(∀x∈xs.take k,m≤x)∧cw [(0,(.slice b xs.length c)),(2,vI 0),(3,vI m),(4,vI (k:Int))] ρ) (fun k=>xs.length-k) 1 ?_ ?_
 ·refine⟨xs[0],F,Nat.le_refl _,h0,?_,?_,⟨F,F,F,F,trivial⟩⟩
  ·show xs[0]∈xs.take (0+1)
   rw[List.take_succ_eq_append_getElem h0];simp
  ·show∀x∈xs.take (0+1),_
   rw[List.take_succ_eq_append_getElem h0];simp
 rintro k ρ O ⟨m,rfl,Z6,hk,hm,lS,hH⟩
 obtain⟨fE,rfl⟩:=hH.elim
 clear hH
 refine aB (ai (ah F (ah F (ad (bS underlying56 F) (ad (bT F F) (ae (aC F (fun hc=>?_) (fun hc=>?_))))))))
 ·have nY:k<xs.length:=by omega
  refine av (aB (aG (aJ (ah F (ah F (ah F (ad (cV (i:=k) underlying56 aO F F (ay h)) (ad (cd underlying3 F F (ay h) fp) (ad (RG F F) (aj F (ae (aJ (ah F (ad (jD F F (by omega)) (aj F (ae ?_))))))))))))))))
  refine⟨k+1,by omega,if xs[k]<m then xs[k]else m,F,by omega,by omega,?_,?_,⟨F,F,F,F,trivial⟩⟩
  ·rw[List.take_succ_eq_append_getElem nY];split
   ·exact List.mem_append_right _ (List.mem_singleton.2 F)
   ·exact List.mem_append_left _ hm
  ·rw[List.take_succ_eq_append_getElem nY]
   intro x hx
   rcases List.mem_append.1 hx with hx|hx
   ·have:=lS x hx;split<;>omega
   ·rw[List.mem_singleton]at hx;subst hx;split<;>omega
 have MK: ¬k<xs.length:=by omega
 refine bJ ?_
 refine ai (ah F (aj F (ae (aA ?_))))
 refine aE (vI m) Tryz.results121 F ?_
 rw[List.take_of_length_le (by omega)]at hm lS
 exact⟨⟨m,F,hm,lS⟩,F⟩
theorem E7 (w:World) (b:Option Addr) (c:Nat) (xs:List Int) (h:Sl w b (ints xs)) (h0:0<xs.length) (hb:xs.length<9223372036854775807):bI Tryz.prog 122 [.slice b xs.length c] w fun v N=>(∃m,v=vI m∧m∈xs∧ ∀x∈xs,x≤m)∧N=[]:=by
 refine aw func122 F ntmps122 F ?_
 refine ai (aj F (ae (aB (ai (ah F (ad (bS underlying56 F) (ad (bT F F) (ae (aC F (fun hc=>?_) (fun hc=>?_))))))))))
 ·exact absurd hc (by omega)
 have V3: ¬xs.length<1:=by omega
 refine av (ai (ah F (ad (cV (i:=0) underlying56 aO F F (ay h)) (ad (cd underlying3 F F (ay h) fp) (aj F (ae (aB (ai (aj F (ae (aG ?_)))))))))))
 refine dm (fun(k:Nat) ρ O=> ∃(m:Int),O=[]∧1≤k∧k≤xs.length∧m∈xs.take k∧(∀x∈xs.take k,x≤m)∧cw [(0,(.slice b xs.length c)),(2,vI 0),(3,vI m),(4,vI (k:Int))] ρ) (fun k=>xs.length-k) 1 ?_ ?_
 ·refine⟨xs[0],F,Nat.le_refl _,h0,?_,?_,⟨F,F,F,F,trivial⟩⟩
  ·show xs[0]∈xs.take (0+1)
   rw[List.take_succ_eq_append_getElem h0];simp
  ·show∀x∈xs.take (0+1),_
   rw[List.take_succ_eq_append_getElem h0];simp
 rintro k ρ O ⟨m,rfl,Z6,hk,hm,lS,hH⟩
 obtain⟨fE,rfl⟩:=hH.elim
 clear hH
 refine aB (ai (ah F (ah F (ad (bS underlying56 F) (ad (bT F F) (ae (aC F (fun hc=>?_) (fun hc=>?_))))))))
 ·have nY:k<xs.length:=by omega
  refine av (aB (aG (aJ (ah F (ah F (ah F (ad (cV (i:=k) underlying56 aO F F (ay h)) (ad (cd underlying3 F F (ay h) fp) (ad (RH F F) (aj F (ae (aJ (ah F (ad (jD F F (by omega)) (aj F (ae ?_))))))))))))))))
  refine⟨k+1,by omega,if xs[k]>m then xs[k]else m,F,by omega,by omega,?_,?_,⟨F,F,F,F,trivial⟩⟩
  ·rw[List.take_succ_eq_append_getElem nY];split
   ·exact List.mem_append_right _ (List.mem_singleton.2 F)
   ·exact List.mem_append_left _ hm
  ·rw[List.take_succ_eq_append_getElem nY]
   intro x hx
   rcases List.mem_append.1 hx with hx|hx
   ·have:=lS x hx;split<;>omega
   ·rw[List.mem_singleton]at hx;subst hx;split<;>omega
 have MK: ¬k<xs.length:=by omega
 refine bJ ?_
 refine ai (ah F (aj F (ae (aA ?_))))
 refine aE (vI m) Tryz.results122 F ?_
 rw[List.take_of_length_le (by omega)]at hm lS
 exact⟨⟨m,F,hm,lS⟩,F⟩
theorem gF (w:World) (d:bU) (nb fb:Option Addr) (nc fc:Nat) (vs:List Value) (h:fZ w d nb vs fb) (hb:d.next.length<9223372036854775807) (rQ: ∀r∈d.next,r.length<9223372036854775807) (tN:d.ax.length<9223372036854775807):
  bI Tryz.prog 83 [.agg (dB d nb nc fb fc).toArray] w fun v N=>v=vI (cE d:Int)∧N=[]:=by
 refine aw func83 F ntmps83 F ?_
 have KB:=h.rows.1
 let jj:Value:=(.slice nb d.next.length nc)
 refine ai (ak F (cH (cs:=[(vI d.vars),(vI d.start),jj,(.slice fb d.ax.length fc)]) F F (fun b1=>?_)))
 refine aj F (ae (ai (ad (aN underlying25 F dM F F) (ad (aQ 0 underlying22 F F F F) (ad (bS underlying22 F) (aj F (ae (aB (aG (ai (ad (aN underlying25 F aO F F) (ad (aQ 0 underlying3 F F F F) ?_))))))))))))
 by_cases KC:d.vars<0
 ·refine ad (aq (bT F F) (decide_eq_true KC)) ?_
  refine ah F (aF F F (aF F F (aF F F (ad (bu F F) (aj F (ae ?_))))))
  refine bj F ?_
  refine ai (aj F (ae (aA (ap ?_))))
  refine aE (vI 7) Tryz.results83 F ?_
  refine⟨[],bn (List.nil_sublist _),congrArg (fun z:Nat=>Value.int .i64 (z:Int)) (show 7=cE d from Eq.symm ?_),F⟩
  unfold cE
  rw[if_pos (by omega)]
 refine ad (aq (bT F F) (decide_eq_false KC)) (ah F (au F F (aN underlying25 F aO F F) (au F F (aQ 0 underlying3 F F F F) ?_)))
 by_cases Od:6<d.vars
 ·refine au F F (aq (fW F F) (decide_eq_true Od)) ?_
  refine ad (bl F F) (aj F (ae ?_))
  refine bj F ?_
  refine ai (aj F (ae (aA (ap ?_))))
  refine aE (vI 7) Tryz.results83 F ?_
  refine⟨[],bn (List.nil_sublist _),congrArg (fun z:Nat=>Value.int .i64 (z:Int)) (show 7=cE d from Eq.symm ?_),F⟩
  unfold cE
  rw[if_pos (by omega)]
 refine au F F (aq (fW F F) (decide_eq_false Od)) (ad (bl F F) (aj F (ae (aL F (ai (ah F (ad (aZ F F) (aj F (ae (aC F (fun hc=>?_) (fun hc=>?_)))))))))))
 ·have ML:d.next.length=0:=by omega
  refine ai (aj F (ae (aA (ap ?_))))
  refine aE (vI 3) Tryz.results83 F ?_
  refine⟨[],bn (List.nil_sublist _),congrArg (fun z:Nat=>Value.int .i64 (z:Int)) (show 3=cE d from Eq.symm ?_),F⟩
  unfold cE
  rw[if_neg (by simp;omega),if_pos ML]
 have wR: ¬d.next.length=0:=by omega
 refine ai (ah F (ad (fW F F) (aj F (ae (aC F (fun hc=>?_) (fun hc=>?_))))))
 ·have sV:d.next.length>4096:=by omega
  refine ai (aj F (ae (aA (ap ?_))))
  refine aE (vI 4) Tryz.results83 F ?_
  refine⟨[],bn (List.nil_sublist _),congrArg (fun z:Nat=>Value.int .i64 (z:Int)) (show 4=cE d from Eq.symm ?_),F⟩
  unfold cE
  rw[if_neg (by simp;omega),if_neg wR,if_pos sV]
 have uB: ¬d.next.length>4096:=by omega
 refine ai (ad (aN underlying25 F cA F F) (ad (aQ 0 underlying23 F F F F) (ad (bS underlying23 F) (ah F (ad (cT F F) (aj F (ae (aC F (fun hc=>?_) (fun hc=>?_)))))))))
 ·have jE:d.ax.length≠d.next.length:=by omega
  refine ai (aj F (ae (aA (ap ?_))))
  refine aE (vI 2) Tryz.results83 F ?_
  refine⟨[],bn (List.nil_sublist _),congrArg (fun z:Nat=>Value.int .i64 (z:Int)) (show 2=cE d from Eq.symm ?_),F⟩
  unfold cE
  rw[if_neg (by simp;omega),if_neg wR,if_neg uB,if_pos jE]
 have zy: ¬d.ax.length≠d.next.length:=by omega
 refine ai (ad (aN underlying25 F aO F F) (ad (aQ 0 underlying3 F F F F) ?_))
 by_cases x3:d.start<0
 ·refine ad (aq (bT F F) (decide_eq_true x3)) ?_
  refine ah F (aF F F (aF F F (aF F F (aF F F (ad (bu F F) (aj F (ae ?_)))))))
  refine bj F ?_
  refine ai (aj F (ae (aA (ap ?_))))
  refine aE (vI 8) Tryz.results83 F ?_
  refine⟨[],bn (List.nil_sublist _),congrArg (fun z:Nat=>Value.int .i64 (z:Int)) (show 8=cE d from Eq.symm ?_),F⟩
  unfold cE
  rw[if_neg (by simp;omega),if_neg wR,if_neg uB,if_neg (by simpa using zy),if_pos (by omega)]
 refine ad (aq (bT F F) (decide_eq_false x3)) (ah F (au F F (aN underlying25 F aO F F) (au F F (aQ 0 underlying3 F F F F) (au F F (az F) ?_))))
 by_cases MM:(d.next.length:Int)≤d.start
 ·refine au F F (aq (jF F F) (decide_eq_true MM)) ?_
  refine ad (bl F F) (aj F (ae ?_))
  refine bj F ?_
  refine ai (aj F (ae (aA (ap ?_))))
  refine aE (vI 8) Tryz.results83 F ?_
  refine⟨[],bn (List.nil_sublist _),congrArg (fun z:Nat=>Value.int .i64 (z:Int)) (show 8=cE d from Eq.symm ?_),F⟩
  unfold cE
  rw[if_neg (by simp;omega),if_neg wR,if_neg uB,if_neg (by simpa using zy),if_pos (by omega)]
 refine au F F (aq (jF F F) (decide_eq_false MM)) (ad (bl F F) (aj F (ae (aL F (av (aB (ai (ad (aN underlying25 F dM F F) (ad (aQ 0 underlying22 F F F F) (ad (bS underlying22 F) (ah F (ae (aG ?_)))))))))))))
 let eQ:Lx.Item:=oI b1 25 [(vI d.vars),(vI d.start),(.slice nb d.next.length nc),(.slice fb d.ax.length fc)]
 refine dm (fun(k:Nat) ρ O=>O=[eQ]∧k≤d.next.length∧qM (2^d.vars.toNat) d.next.length (d.next.drop k)=cE d∧cw [(0,(.agg #[(vI d.vars),(vI d.start),jj,(.slice fb d.ax.length fc)])),(1,(.pointer (aD b1))),(3,vI (d.next.length:Int)),(9,.bool false),(18,.bool (decide ((d.next.length:Int)=0))),(21,.bool (decide ((d.next.length:Int)>4096))),(24,.bool (decide ((d.ax.length:Int)≠(d.next.length:Int)))),(30,.bool false),(41,jj),(42,vI (d.next.length:Int)),(43,vI (k:Int))] ρ) (fun k=>d.next.length-k) 0 ?_ ?_
 ·refine⟨F,Nat.zero_le _,?_,(.of F)⟩
  unfold cE
  rw[if_neg (by simp;omega),if_neg wR,if_neg uB,if_neg (by simpa using zy),if_neg (by omega)];rfl
 rintro k ρ O ⟨rfl,hk,hr,hH⟩
 obtain⟨fE,rfl⟩:=hH.elim
 clear hH
 refine ai (ad (bT F F) (ae (aB (aC F (fun hc=>?_) (fun hc=>?_)))))
 ·have j8:k<d.next.length:=by omega
  obtain⟨Vi,Vj,g1,s1⟩:=h.rows.get j8
  have E8:=rQ _ (List.getElem_mem j8)
  refine av (aB (aG (ai (ad (cV (i:=k) underlying22 bV F F (ay h.outer)) (ad (cd underlying56 F F (ay h.outer) g1) (aj F (ae (aB (ai (ah F (ad (bS underlying56 F) (ad (aN underlying25 F aO F F) (ad (aQ 0 underlying3 F F F F) (ad (kV (v:=d.vars.toNat) F (by show Value.int _ d.vars=_;rw[Int.toNat_of_nonneg (by omega)]) (by omega)) (ad (cT F F) (ae (aC F (fun hc=>?_) (fun hc=>?_))))))))))))))))))
  ·have MN:d.next[k].length≠2^d.vars.toNat:=by omega
   refine ai (aj F (ae (aA (ap ?_))))
   refine aE (vI 2) Tryz.results83 F ?_
   refine⟨[],bn (List.nil_sublist _),congrArg (fun z:Nat=>Value.int .i64 (z:Int)) (show 2=cE d from Eq.symm ?_),F⟩
   rw[←hr,qN j8,if_pos MN]
  have Dn: ¬d.next[k].length≠2^d.vars.toNat:=by omega
  have MO:0<d.next[k].length:=by
   have:=Nat.pow_pos (n:=d.vars.toNat) (show 0<2 by omega)
   omega
  refine av (ai (ah F ?_))
  have GR:=fun(w1:World) (hI:Inv w [eQ] w1)=>E6 w1 Vi Vj d.next[k] (hI.sl s1) MO E8
  refine ak F (aP Oe (aI GR) F ?_)
  clear GR
  rintro v O' ⟨N,rfl,⟨m1,rfl,Z7,RI⟩,rfl⟩
  by_cases MJ:m1<0
  ·refine ad (aq (bT F F) (decide_eq_true MJ)) ?_
   refine ah F (aF F F (aF F F (aF F F (aF F F (ad (bu F F) (ae ?_))))))
   refine bj F ?_
   refine ai (aj F (ae (aA (ap ?_))))
   refine aE (vI 8) Tryz.results83 F ?_
   refine⟨[],bn (List.nil_sublist _),congrArg (fun z:Nat=>Value.int .i64 (z:Int)) (show 8=cE d from Eq.symm ?_),F⟩
   rw[←hr,qN j8,if_neg (by simpa using Dn),if_neg ?_]
   intro hh
   simp only[sW,List.all_eq_true,Bool.and_eq_true,decide_eq_true_eq]at hh
   have:=hh _ Z7;omega
  refine ad (aq (bT F F) (decide_eq_false MJ)) (ah F (au F F (az F) ?_))
  have GU:=fun(w1:World) (hI:Inv w [eQ] w1)=>E7 w1 Vi Vj d.next[k] (hI.sl s1) MO E8
  refine fU F F F (aP Of (aI GU) F ?_)
  clear GU
  rintro v O' ⟨N,rfl,⟨m2,rfl,zz,RJ⟩,rfl⟩
  refine au F F (az F) ?_
  by_cases Yt:(d.next.length:Int)≤m2
  ·refine au F F (aq (jF F F) (decide_eq_true Yt)) ?_
   refine ad (bl F F) (ae ?_)
   refine bj F ?_
   refine ai (aj F (ae (aA (ap ?_))))
   refine aE (vI 8) Tryz.results83 F ?_
   refine⟨[],bn (List.nil_sublist _),congrArg (fun z:Nat=>Value.int .i64 (z:Int)) (show 8=cE d from Eq.symm ?_),F⟩
   rw[←hr,qN j8,if_neg (by simpa using Dn),if_neg ?_]
   intro hh
   simp only[sW,List.all_eq_true,Bool.and_eq_true,decide_eq_true_eq]at hh
   have:=hh _ zz;omega
  refine au F F (aq (jF F F) (decide_eq_false Yt)) (ad (bl F F) (ae (aL F (av (aJ (ad (jD F F (by omega)) (ah F (ae ?_))))))))
  refine⟨k+1,by omega,F,by omega,?_,(.of F)⟩
  rw[←hr,qN j8,if_neg (by simpa using Dn),if_pos ?_]
  simp only[sW,List.all_eq_true,Bool.and_eq_true,decide_eq_true_eq]
  intro x hx
  have:=RI x hx;have:=RJ x hx;omega
 have MP: ¬k<d.next.length:=by omega
 refine bJ ?_
 refine ai (aj F (ae (aA (ap ?_))))
 refine aE (vI 0) Tryz.results83 F ?_
 refine⟨[],bn (List.nil_sublist _),congrArg (fun z:Nat=>Value.int .i64 (z:Int)) (show 0=cE d from Eq.symm ?_),F⟩
 rw[←hr,E9 (by omega)]
end Go.Proofs.YtgdbfideeeegmaaGreatDoor

namespace Go.Proofs
open Go.Shelf
def Tryz.BG:Go.Shelf.Ren:=⟨fun|283=>214|n=>n,fun|3=>3|9=>9|4=>4|n=>n,fun|n=>n⟩
theorem Tryz.ME:Go.Proofs.Lays.n283 Tryz.prog Tryz.BG:= {
 mixed:=by kernel_rfl
 f283:=Tryz.func214.trans (congrArg some (by kernel_rfl))
 t3:=Tryz.underlying3
 a3:=Tryz.isAgg3
 z3:=Tryz.sizeOf3
 v3:=Tryz.zeroValue3
 t4:=Tryz.underlying4
 a4:=Tryz.isAgg4
 z4:=Tryz.sizeOf4
 v4:=Tryz.zeroValue4
 t9:=Tryz.underlying9
 a9:=Tryz.isAgg9
 z9:=Tryz.sizeOf9
 v9:=Tryz.zeroValue9}
open Go.RowKit Go.Sort Go.Lib in
theorem Tryz.internal_strconv_small (i:Nat) (h:i<100) (w:World):
  Calls Tryz.prog 214 #[.int .i64 i] w fun e w'=>e=.returned (.string ⟨(Lib.decDigits i).toArray⟩)∧w'=w:=Any.internal_strconv_small Tryz.ME i h w
def Tryz.y8:Go.Shelf.Ren:=⟨fun|284=>215|129=>209|317=>241|318=>242|n=>n,fun|53=>256|3=>3|212=>282|0=>0|4=>4|46=>101|5=>5|9=>9|n=>n,fun|17=>0|n=>n⟩
theorem Tryz.J5:Go.Proofs.LaysM.n284 Tryz.prog Tryz.y8:= {
 mixed:=by kernel_rfl
 f129:=Tryz.func209.trans (congrArg some (by kernel_rfl))
 f284:=Tryz.func215.trans (congrArg some (by kernel_rfl))
 f317:=Tryz.func241.trans (congrArg some (by kernel_rfl))
 f318:=Tryz.func242.trans (congrArg some (by kernel_rfl))
 t0:=Tryz.underlying0
 a0:=Tryz.isAgg0
 z0:=Tryz.sizeOf0
 v0:=Tryz.zeroValue0
 t3:=Tryz.underlying3
 a3:=Tryz.isAgg3
 z3:=Tryz.sizeOf3
 v3:=Tryz.zeroValue3
 t4:=Tryz.underlying4
 a4:=Tryz.isAgg4
 z4:=Tryz.sizeOf4
 v4:=Tryz.zeroValue4
 t5:=Tryz.underlying5
 a5:=Tryz.isAgg5
 z5:=Tryz.sizeOf5
 v5:=Tryz.zeroValue5
 t9:=Tryz.underlying9
 a9:=Tryz.isAgg9
 z9:=Tryz.sizeOf9
 v9:=Tryz.zeroValue9
 t46:=Tryz.underlying101
 a46:=Tryz.isAgg101
 z46:=Tryz.sizeOf101
 v46:=Tryz.zeroValue101
 t53:=Tryz.underlying256
 a53:=Tryz.isAgg256
 z53:=Tryz.sizeOf256
 v53:=Tryz.zeroValue256
 t212:=Tryz.underlying282
 a212:=Tryz.isAgg282
 z212:=Tryz.sizeOf282
 v212:=Tryz.zeroValue282
 g17:=by kernel_rfl
 i0:=by kernel_rfl
 i3:=by kernel_rfl
 i4:=by kernel_rfl
 i5:=by kernel_rfl
 i9:=by kernel_rfl
 i46:=by kernel_rfl
 i53:=by kernel_rfl
 i212:=by kernel_rfl
 m17:=by kernel_rfl}
open Go.RowKit Go.Sort Go.Lib in
theorem Tryz.internal_strconv_numDigits (u:Nat) (h1:1≤u) (h2:u<18446744073709551616) (w:World) (Q8:Lib.TabIs Tryz.prog w "internal/strconv.uint64pow10" .u64 Lib.pow10Tab):
  Calls Tryz.prog 215 #[.int .u64 u] w fun e w'=>e=.returned (.int .i64 (Lib.nDigits u))∧w'=w:=Any.internal_strconv_numDigits Tryz.J5 u h1 h2 w Q8
def Tryz.BH:Go.Shelf.Ren:=⟨fun|285=>216|n=>n,fun|37=>43|53=>256|3=>3|4=>4|51=>254|9=>9|5=>5|0=>0|n=>n,fun|n=>n⟩
theorem Tryz.MF:Go.Proofs.Lays.n285 Tryz.prog Tryz.BH:= {
 mixed:=by kernel_rfl
 f285:=Tryz.func216.trans (congrArg some (by kernel_rfl))
 t0:=Tryz.underlying0
 a0:=Tryz.isAgg0
 z0:=Tryz.sizeOf0
 v0:=Tryz.zeroValue0
 t3:=Tryz.underlying3
 a3:=Tryz.isAgg3
 z3:=Tryz.sizeOf3
 v3:=Tryz.zeroValue3
 t4:=Tryz.underlying4
 a4:=Tryz.isAgg4
 z4:=Tryz.sizeOf4
 v4:=Tryz.zeroValue4
 t5:=Tryz.underlying5
 a5:=Tryz.isAgg5
 z5:=Tryz.sizeOf5
 v5:=Tryz.zeroValue5
 t9:=Tryz.underlying9
 a9:=Tryz.isAgg9
 z9:=Tryz.sizeOf9
 v9:=Tryz.zeroValue9
 t37:=Tryz.underlying43
 a37:=Tryz.isAgg43
 z37:=Tryz.sizeOf43
 v37:=Tryz.zeroValue43
 t51:=Tryz.underlying254
 a51:=Tryz.isAgg254
 z51:=Tryz.sizeOf254
 v51:=Tryz.zeroValue254
 t53:=Tryz.underlying256
 a53:=Tryz.isAgg256
 z53:=Tryz.sizeOf256
 v53:=Tryz.zeroValue256}
open Go.RowKit Go.Sort Go.Lib in
theorem Tryz.internal_strconv_formatBase10 (jH off cap:Nat) (u:Nat) (d:Array UInt8) (w:World) (hH:Holds (fun(b:UInt8)=>Value.int .u8 (b.toNat:Int)) w jH off d) (hu:u<10^d.size) (Yi:u<18446744073709551616) (rZ:d.size<4611686018427387904):
  Calls Tryz.prog 216 #[.slice (some ⟨jH,off,none⟩) d.size cap,.int .u64 u] w fun e w'=>
   e=.returned (.tuple #[])∧ ∃(n v':Nat) (dk:Array UInt8),w'=(putRow (fun(b:UInt8)=>Value.int .u8 (b.toNat:Int)) w jH off dk).drewN n∧FmtInv d.size u 0 v' dk:=Any.internal_strconv_formatBase10 Tryz.MF jH off cap u d w hH hu Yi rZ
def Tryz.y9:Go.Shelf.Ren:=⟨fun|171=>85|243=>123|246=>169|283=>214|284=>215|285=>216|286=>217|129=>209|317=>241|318=>242|319=>243|320=>244|337=>258|338=>259|n=>n,fun|3=>3|9=>9|2=>2|4=>4|171=>260|0=>0|53=>256|37=>43|5=>5|173=>262|212=>282|51=>254|20=>20|213=>283|46=>101|232=>297|233=>298|n=>n,fun|17=>0|18=>1|19=>2|n=>n⟩
theorem Tryz.J6:Go.Proofs.LaysM.n171 Tryz.prog Tryz.y9:= {
 mixed:=by kernel_rfl
 f129:=Tryz.func209.trans (congrArg some (by kernel_rfl))
 f171:=Tryz.func85.trans (congrArg some (by kernel_rfl))
 f243:=Tryz.func123.trans (congrArg some (by kernel_rfl))
 f246:=Tryz.func169.trans (congrArg some (by kernel_rfl))
 f283:=Tryz.func214.trans (congrArg some (by kernel_rfl))
 f284:=Tryz.func215.trans (congrArg some (by kernel_rfl))
 f285:=Tryz.func216.trans (congrArg some (by kernel_rfl))
 f286:=Tryz.func217.trans (congrArg some (by kernel_rfl))
 f317:=Tryz.func241.trans (congrArg some (by kernel_rfl))
 f318:=Tryz.func242.trans (congrArg some (by kernel_rfl))
 f319:=Tryz.func243.trans (congrArg some (by kernel_rfl))
 f320:=Tryz.func244.trans (congrArg some (by kernel_rfl))
 f337:=Tryz.func258.trans (congrArg some (by kernel_rfl))
 f338:=Tryz.func259.trans (congrArg some (by kernel_rfl))
 t0:=Tryz.underlying0
 a0:=Tryz.isAgg0
 z0:=Tryz.sizeOf0
 v0:=Tryz.zeroValue0
 t2:=Tryz.underlying2
 a2:=Tryz.isAgg2
 z2:=Tryz.sizeOf2
 v2:=Tryz.zeroValue2
 t3:=Tryz.underlying3
 a3:=Tryz.isAgg3
 z3:=Tryz.sizeOf3
 v3:=Tryz.zeroValue3
 t4:=Tryz.underlying4
 a4:=Tryz.isAgg4
 z4:=Tryz.sizeOf4
 v4:=Tryz.zeroValue4
 t5:=Tryz.underlying5
 a5:=Tryz.isAgg5
 z5:=Tryz.sizeOf5
 v5:=Tryz.zeroValue5
 t9:=Tryz.underlying9
 a9:=Tryz.isAgg9
 z9:=Tryz.sizeOf9
 v9:=Tryz.zeroValue9
 t20:=Tryz.underlying20
 a20:=Tryz.isAgg20
 z20:=Tryz.sizeOf20
 v20:=Tryz.zeroValue20
 t37:=Tryz.underlying43
 a37:=Tryz.isAgg43
 z37:=Tryz.sizeOf43
 v37:=Tryz.zeroValue43
 t46:=Tryz.underlying101
 a46:=Tryz.isAgg101
 z46:=Tryz.sizeOf101
 v46:=Tryz.zeroValue101
 t51:=Tryz.underlying254
 a51:=Tryz.isAgg254
 z51:=Tryz.sizeOf254
 v51:=Tryz.zeroValue254
 t53:=Tryz.underlying256
 a53:=Tryz.isAgg256
 z53:=Tryz.sizeOf256
 v53:=Tryz.zeroValue256
 t171:=Tryz.underlying260
 a171:=Tryz.isAgg260
 z171:=Tryz.sizeOf260
 v171:=Tryz.zeroValue260
 t173:=Tryz.underlying262
 a173:=Tryz.isAgg262
 z173:=Tryz.sizeOf262
 v173:=Tryz.zeroValue262
 t212:=Tryz.underlying282
 a212:=Tryz.isAgg282
 z212:=Tryz.sizeOf282
 v212:=Tryz.zeroValue282
 t213:=Tryz.underlying283
 a213:=Tryz.isAgg283
 z213:=Tryz.sizeOf283
 t232:=Tryz.underlying297
 a232:=Tryz.isAgg297
 z232:=Tryz.sizeOf297
 v232:=Tryz.zeroValue297
 t233:=Tryz.underlying298
 a233:=Tryz.isAgg298
 z233:=Tryz.sizeOf298
 v233:=Tryz.zeroValue298
 g17:=by kernel_rfl
 g18:=by kernel_rfl
 g19:=by kernel_rfl
 i0:=by kernel_rfl
 i2:=by kernel_rfl
 i3:=by kernel_rfl
 i4:=by kernel_rfl
 i5:=by kernel_rfl
 i9:=by kernel_rfl
 i20:=by kernel_rfl
 i37:=by kernel_rfl
 i46:=by kernel_rfl
 i51:=by kernel_rfl
 i53:=by kernel_rfl
 i171:=by kernel_rfl
 i173:=by kernel_rfl
 i212:=by kernel_rfl
 i232:=by kernel_rfl
 i233:=by kernel_rfl
 m17:=by kernel_rfl
 m18:=by kernel_rfl
 m19:=by kernel_rfl}
open Go.RowKit Go.Sort Go.Lib in
theorem Tryz.strconv_Itoa (n:Int) (h0: -9223372036854775808≤n) (h1:n≤9223372036854775807) (w:World) (Q8:Lib.TabIs Tryz.prog w "internal/strconv.uint64pow10" .u64 Lib.pow10Tab):
  Calls Tryz.prog 85 #[.int .i64 n] w fun e w'=>e=.returned (.string ⟨(Lib.itoa n).toArray⟩)∧ ∃k os,w'=grow (w.drewN k) os:=Any.strconv_Itoa Tryz.J6 n h0 h1 w Q8
end Go.Proofs

namespace Go.Proofs.YtgdbfideeeegmaaGreatDoor
open Go.Lx Go.RowKit _root_.Go.Proofs.Tryz
theorem Rc (w:World) (i:Nat) (h:i<100):bI Tryz.prog 214 [vI (i:Int)] w fun v N=>v=str (Lib.decDigits i)∧N=[]:=fun w1 M hI=>
 (Go.Proofs.Tryz.internal_strconv_small i h w1).mono (by rintro e w' ⟨rfl,rfl⟩;exact⟨_,[],F,hI,F,F⟩)
theorem ndF (w:World) [t:cG Tryz.prog w] (n:Nat) (h1:1≤n) (hn:n<1000000000000):bI Tryz.prog 215 [.int .u64 (n:Int)] w fun v N=>v=vI (Lib.nDigits n:Int)∧N=[]:=fun w1 M hI=>
 (Go.Proofs.Tryz.internal_strconv_numDigits n h1 (by omega) w1 (cG.is (hI.tab (P:=Tryz.prog)))).mono (by rintro e w' ⟨rfl,rfl⟩;exact⟨_,[],F,hI,F,F⟩)
theorem J8 (base:World) [cG Tryz.prog base] (b:Option Addr) (c c' m n:Nat) (l:List UInt8) (hl:l.length=m) (hn:n<1000000000000) (R_:100≤n) (hm:m≤1000000):
  bm Tryz.prog base 231 [.slice b m c,.int .u64 (n:Int),vI 10] [am b c 5 1 (bZ l)] (fun v O'=> ∃b' c',v=.slice b' (m+(Lib.decDigits n).length) c'∧ ∃k cs,O'=[cR k (.cells cs 260 (0,0)),am b' c' 5 1 (bZ (l++Lib.decDigits n))]):=by
 have h20:Lib.nDigits n≤20:=by have:=Lib.numDigits_eq n (by omega) (by omega);split at this<;>omega
 have VC:1≤Lib.nDigits n:=by rw[Lib.nDigits_big (by omega)];omega
 refine aw func231 F ntmps231 F ?_
 refine ai (aj F (ae (aB (ai (ah F (ad (aZ F F) (ae ?_)))))))
 refine bj F ?_
 refine aB (ai (ah F (ad (bT F F) (ae (aL (congrArg Value.bool (decide_eq_false (show¬(n:Int)<100 by omega))) (av (ai (ak F (aR Qy F (fun bA=>?_))))))))))
 refine ae (ai (ah F (ak F (aP QJ (aI (fun w1 hI=>by haveI:=hI.tab (P:=Tryz.prog);exact ndF w1 n (by omega) hn)) F ?_))))
 rintro v O' ⟨N,rfl,rfl,rfl⟩
 refine aj F (ae (ai (ah F (ad (zU underlying260 cI F F (by omega) VC) (ah F ?_)))))
 have hk:=(KO (base:=base) (b:=bA) (T:=260) (n:=n) (fun j hj=>Lib.zeros24_at j hj) (by omega) hn Go.Proofs.Tryz.internal_strconv_formatBase10).under (O:=[cR bA (.cells Lib.zeros24 260 (0,0)),am b c 5 1 (bZ l)]) (B:=[am b c 5 1 (bZ l)]) (bn (List.Sublist.refl _))
 refine ak F (aP QK hk F ?_)
 clear hk
 rintro v O' ⟨O1,rfl,rfl,cs,rfl,Bp⟩
 refine ae (ai (ah F (ah F (ad (zU underlying260 cI F F (by omega) VC) (ak F (Fp (new:=bZ (Lib.decDigits n)) 0 1 underlying43 underlying43 cI F F F F (by simp[bZ,hl]) (by simp[bZ,Lib.decDigits_length]) F Bp (uN _) (by omega) (by decide) (by decide) (fun b2 c2=>?_)))))))
 refine aj F (ae (aA ?_))
 refine aE (.slice b2 (m+Lib.nDigits n) c2) Tryz.results231 F ?_
 refine⟨b2,c2,by rw[Lib.decDigits_length],bA,cs,?_⟩
 rw[show bZ (l++Lib.decDigits n)=bZ l++bZ (Lib.decDigits n)from List.map_append];rfl
theorem Ay (base:World) (b:Option Addr) (c c' m n:Nat) (l:List UInt8) (hl:l.length=m) (hn:n<100) (hm:m≤1000000):
  bm Tryz.prog base 231 [.slice b m c,.int .u64 (n:Int),vI 10] [am b c 5 1 (bZ l)] (fun v O'=> ∃b' c',v=.slice b' (m+(Lib.decDigits n).length) c'∧O'=[am b' c' 5 1 (bZ (l++Lib.decDigits n))]):=by
 refine aw func231 F ntmps231 F ?_
 refine ai (aj F (ae (aB (ai (ah F (ad (aZ F F) (ae ?_)))))))
 refine bj F ?_
 refine aB (ai (ah F (ad (bT F F) (ae ?_))))
 refine bj (congrArg Value.bool (decide_eq_true (show(n:Int)<100 by omega))) ?_
 refine ai (ah F (ah F (ad (et underlying256 underlying3 F (show IntKind.i64.wrap (n:Int)=(n:Int)from fz (by omega))) ?_)))
 have oF:=fun(w1:World) (hI:Inv base [am b c 5 1 (bZ l)] w1)=>Rc w1 n hn
 refine ak F (aP QI (aI oF) F ?_)
 clear oF
 rintro v O' ⟨N,rfl,rfl,rfl⟩
 refine ak F (xa (s:=Lib.decDigits n) 0 underlying43 underlying9 cI F F F F (by simp[hl]) F (by have:=qY 1 n (by omega);omega) (by decide) (by decide) (fun b2 c2=>?_))
 refine aj F (ae (aA ?_))
 refine aE (.slice b2 (m+(Lib.decDigits n).length) c2) Tryz.results231 F ?_
 exact⟨b2,c2,F,by rw[show bZ (l++Lib.decDigits n)=bZ l++bZ (Lib.decDigits n)from List.map_append];rfl⟩
theorem J9 (base:World) [cG Tryz.prog base] (b:Option Addr) (c c' m n:Nat) (l:List UInt8) (hl:l.length=m) (hn:n<1000000000000) (hm:m≤1000000):
  bm Tryz.prog base 231 [.slice b m c,.int .u64 (n:Int),vI 10] [am b c 5 1 (bZ l)] (fun v O'=> ∃b' c',v=.slice b' (m+(Lib.decDigits n).length) c'∧O'=[am b' c' 5 1 (bZ (l++Lib.decDigits n))]):=by
 by_cases h:n<100
 ·exact Ay base b c c' m n l hl h hm
 ·exact(J8 base b c c' m n l hl hn (by omega) hm).drop fun v O' ⟨b',c',h1,k,cs,h2⟩=>⟨_,h2▸bn (List.sublist_cons_self _ _),b',c',h1,F⟩
theorem MG (base:World) [cG Tryz.prog base] (b:Option Addr) (c c' m n:Nat) (l:List UInt8) (hl:l.length=m) (hn:n<1000000000000) (hm:m≤1000000):
  bm Tryz.prog base 210 [.slice b m c,vI (n:Int),vI 10] [am b c 5 1 (bZ l)] (fun v O'=> ∃b' c',v=.slice b' (m+(Lib.decDigits n).length) c'∧O'=[am b' c' 5 1 (bZ (l++Lib.decDigits n))]):=by
 refine aw func210 F ntmps210 F ?_
 refine ai (aj F (ae (ai (ah F (ad (et underlying2 underlying256 F (show IntKind.u64.wrap (n:Int)=(n:Int) by unfold IntKind.wrap;simp[IntKind.bits,IntKind.signed];omega)) (aj F (ae (aB (ai (ah F (ad (bT F F) (ae (aL (congrArg Value.bool (decide_eq_false (show¬(n:Int)<0 by omega))) ?_)))))))))))))
 refine av (ai (ah F (ah F (ah F ?_))))
 have lh:=J9 base b c c' m n l hl hn hm
 refine ak F (aP HT lh F ?_)
 clear lh
 rintro v O' ⟨b2,c2,rfl,rfl⟩
 refine aj F (ae (aA ?_))
 refine aE (.slice b2 (m+(Lib.decDigits n).length) c2) Tryz.results210 F ?_
 exact⟨b2,c2,F,F⟩
theorem Pe (base:World) [cG Tryz.prog base] (b:Option Addr) (c c' m n:Nat) (l:List UInt8) (hl:l.length=m) (hn:n<1000000000000) (hm:m≤1000000):
  bm Tryz.prog base 160 [.slice b m c,vI (n:Int),vI 10] [am b c 5 1 (bZ l)] (fun v O'=> ∃b' c',v=.slice b' (m+(Lib.decDigits n).length) c'∧O'=[am b' c' 5 1 (bZ (l++Lib.decDigits n))]):=by
 refine aw func160 F ntmps160 F ?_
 refine ai (aj F (ae (ai (ah F (ah F (ah F ?_))))))
 have oB:=MG base b c c' m n l hl hn hm
 refine ak F (aP HU oB F ?_)
 clear oB
 rintro v O' ⟨b2,c2,rfl,rfl⟩
 refine aj F (ae (aA ?_))
 refine aE (.slice b2 (m+(Lib.decDigits n).length) c2) Tryz.results160 F ?_
 exact⟨b2,c2,F,F⟩
theorem J4 (w:World) [cG Tryz.prog w] (n:Nat) (hn:n<1000000000000):bI Tryz.prog 85 [vI (n:Int)] w fun v N=>v=str (Lib.decDigits n)∧N=[]:=fun w1 M hI=>
 (Go.Proofs.Tryz.strconv_Itoa n (by omega) (by omega) w1 (cG.is (hI.tab (P:=Tryz.prog)))).mono (by rintro e w' ⟨rfl,k,os,rfl⟩;exact⟨_,[],F,hI.grow k os,by rw[Lib.itoa_nonneg];rfl,F⟩)
theorem di {w w1:World} {O:List Lx.Item} [cG Tryz.prog w] (h:Inv w O w1):cG Tryz.prog w1:=Inv.tab (P:=Tryz.prog) h
theorem aW {w:World} {O:List Lx.Item} {f:FuncId} {args:List Value} {R:Value→List Lx.Item→Prop} [cG Tryz.prog w] (h: ∀(w1:World) [cG Tryz.prog w1],bI Tryz.prog f args w1 R):bm Tryz.prog w f args O (fun v O2=> ∃N,O2=N++O∧R v N):=aI fun w1 hI=>haveI:=di hI;h w1
abbrev uT2:= @underlying2
abbrev cS:= @underlying3
abbrev zi:= @underlying4
abbrev eu:= @underlying5
abbrev ra:= @underlying9
abbrev du:= @underlying22
abbrev df:= @underlying23
abbrev bW:= @underlying25
abbrev mr:= @underlying27
abbrev cN:= @underlying32
abbrev lj:= @underlying43
abbrev bK:= @underlying56
abbrev si:= @underlying67
abbrev eG:= @underlying69
abbrev bs:= @underlying72
abbrev u0:= @underlying73
abbrev j_:= @underlying75
abbrev tX:= @underlying79
abbrev iR:= @underlying81
abbrev Ba:= @underlying96
abbrev tY:= @underlying97
abbrev M8:= @underlying101
abbrev d_:= @underlying112
abbrev e8:= @underlying114
abbrev fX:= @underlying118
abbrev lO:= @underlying120
abbrev ie:= @underlying122
abbrev jt:= @underlying129
abbrev I1:= @underlying140
abbrev eH:= @underlying149
abbrev q5:= @underlying153
abbrev th:= @underlying159
abbrev fL:= @underlying160
abbrev AA:= @underlying163
abbrev A2:= @underlying166
abbrev gV:= @underlying167
abbrev jK:= @underlying169
abbrev iH:= @underlying173
abbrev UM:= @underlying180
abbrev N_:= @underlying197
abbrev jd:= @underlying208
abbrev Nu:= @underlying209
abbrev pT:= @underlying227
abbrev lz:= @underlying234
abbrev ku:= @underlying235
abbrev rM:= @underlying236
abbrev mJ:= @underlying238
abbrev td:= @underlying244
abbrev Tb:= @underlying256
end Go.Proofs.YtgdbfideeeegmaaGreatDoor

namespace Go.Proofs.YtgdbfideeeegmaaGreatDoor
open Go.Lx Go.RowKit _root_.Go.Proofs.Tryz
theorem Ml (base:World) [cG Tryz.prog base] (bx m:Nat) (ks:List (List UInt8)) (key:List UInt8) (hk:key∈ks) (hb:ks.length<1000000):
  bm Tryz.prog base 168 [str key,.pointer (aD bx)] [cR bx (.cells #[.map (some m)] 160 (0,0)),cm str (fun n:Nat=>Value.int .i64 (n:Int)) m ks.zipIdx] (fun v O'=>v=vN (ix key (add ks key))∧O'=[cR bx (.cells #[.map (some m)] 160 (0,0)),cm str (fun n:Nat=>Value.int .i64 (n:Int)) m (add ks key).zipIdx]):=by
 refine aw func168 F ntmps168 F ?_
 refine ai (aj F (ae (ai (ad (aQ 0 fL F F F F) (ah F (ad (a7 (gL (a:=key) fL aO (eN.string ra) F F (mG 1 F)) (v':=(.tuple #[vN (ix key ks),.bool true])) (by rw[iE];simp[hk])) (ah F (ad (aV (vs:=_) F F) (ad (aV (vs:=_) F F) (aj F (aj F (ae (aB (ai (ah F (ad (gy F) (ae ?_)))))))))))))))))
 refine aL F (av (ai (ah F (aj F (ae (aA ?_))))))
 refine aE (vN (ix key ks)) Tryz.results168 F ?_
 have ha:add ks key=ks:=if_pos hk
 rw[ha];exact⟨F,F⟩
theorem Jy (base:World) [cG Tryz.prog base] (bx m:Nat) (ks:List (List UInt8)) (key:List UInt8) (hk:key∉ks) (hb:ks.length<1000000):
  bm Tryz.prog base 168 [str key,.pointer (aD bx)] [cR bx (.cells #[.map (some m)] 160 (0,0)),cm str (fun n:Nat=>Value.int .i64 (n:Int)) m ks.zipIdx] (fun v O'=>v=vN (ix key (add ks key))∧O'=[cR bx (.cells #[.map (some m)] 160 (0,0)),cm str (fun n:Nat=>Value.int .i64 (n:Int)) m (add ks key).zipIdx]):=by
 refine aw func168 F ntmps168 F ?_
 refine ai (aj F (ae (ai (ad (aQ 0 fL F F F F) (ah F (ad (a7 (gL (a:=key) fL aO (eN.string ra) F F (mG 1 F)) (v':=(.tuple #[vI 0,.bool false])) (by rw[iE];simp[hk])) (ah F (ad (aV (vs:=_) F F) (ad (aV (vs:=_) F F) (aj F (aj F (ae (aB (ai (ah F (ad (gy F) (ae ?_)))))))))))))))))
 refine bj F ?_
 refine ai (ad (aQ 0 fL F F F F) (ad (a7 (og fL F (mG 1 F)) (v':=vN ks.length) (by simp)) (aj F (ae (aJ (ad (aQ 0 fL F F F F) (ah F (ah F (ak F (me (a:=key) (v:=ks.length) 1 fL (eN.string ra) F F F F (by rw[jN];exact hk) ?_))))))))))
 refine ae (ai (ah F (aj F (ae (aA ?_)))))
 refine aE (vN ks.length) Tryz.results168 F ?_
 have ha:add ks key=ks++[key]:=if_neg hk
 rw[ha]
 refine⟨by rw[ei hk];simp[ix],?_⟩
 rw[show(ks++[key]).zipIdx=ks.zipIdx++[(key,ks.length)] by rw[List.zipIdx_append];simp];rfl
theorem Xj (base:World) [cG Tryz.prog base] (bx m:Nat) (ks:List (List UInt8)) (key:List UInt8) (hb:ks.length<1000000):
  bm Tryz.prog base 168 [str key,.pointer (aD bx)] [cR bx (.cells #[.map (some m)] 160 (0,0)),cm str (fun n:Nat=>Value.int .i64 (n:Int)) m ks.zipIdx] (fun v O'=>v=vN (ix key (add ks key))∧O'=[cR bx (.cells #[.map (some m)] 160 (0,0)),cm str (fun n:Nat=>Value.int .i64 (n:Int)) m (add ks key).zipIdx]):=by
 by_cases hk:key∈ks
 ·exact Ml base bx m ks key hk hb
 ·exact Jy base bx m ks key hk hb
theorem N1 (w:World) [cG Tryz.prog w] (d:bU) (nb fb:Option Addr) (nc fc:Nat):bI Tryz.prog 51 [.agg (dB d nb nc fb fc).toArray] w fun v N=> ∃b,v=.func (.func 82) #[] #[.pointer (aD b)]∧N=[oI b 25 [(vI d.vars),(vI d.start),(.slice nb d.next.length nc),(.slice fb d.ax.length fc)]]:=by
 refine aw func51 F ntmps51 F ?_
 refine ai (ak F (cH (cs:=[(vI d.vars),(vI d.start),(.slice nb d.next.length nc),(.slice fb d.ax.length fc)]) F F (fun b1=>?_)))
 refine aj F (ae (ai (ad (dQ) (aj F (ae (aA ?_))))))
 refine aE (.func (.func 82) #[] #[(.pointer (aD b1))]) Tryz.results51 F ?_
 exact⟨b1,F,F⟩
theorem N2 (base:World) [cG Tryz.prog base] (d:bU) (nb fb:Option Addr) (nc fc:Nat) (vs:List Value) (h:fZ base d nb vs fb) (hb:d.next.length<9223372036854775807) (bx:Nat) (yv:Value) (J:Nat→List Lx.Item→Prop) (Q:List Lx.Item→Prop)
  (hy: ∀k (hk:k<d.next.length) (vb:Option Addr) (vc:Nat) (O:List Lx.Item),vs[k]? =some (.slice vb d.next[k].length vc)→Sl base vb (ints d.next[k])→J k O→
   dn Tryz.prog base yv [vI (k:Int),.slice vb d.next[k].length vc] O (fun v O'=>(v=.bool true∧J (k+1) O')∨(v=.bool false∧Q O')))
  (O:List Lx.Item) (h0:J 0 O):bm Tryz.prog base 82 [yv,.pointer (aD bx)] (oI bx 25 [(vI d.vars),(vI d.start),(.slice nb d.next.length nc),(.slice fb d.ax.length fc)]::O) (fun _ O'=>J d.next.length O'∨Q O'):=by
 refine aw func82 F ntmps82 F ?_
 have KB:=h.rows.1
 refine ai (ad (aN bW F dM F F) (ad (aQ 0 du F F F F) (ad (bS du F) (ah F (ae (aG ?_))))))
 let eQ:List Lx.Item:=[oI bx 25 [(vI d.vars),(vI d.start),(.slice nb d.next.length nc),(.slice fb d.ax.length fc)]]
 refine dm (fun(k:Nat) ρ O=> ∃(O1:List Lx.Item),O=(eQ++O1)∧k≤d.next.length∧J k O1∧cw [(0,yv),(1,(.pointer (aD bx))),(6,(.slice nb d.next.length nc)),(7,vI (d.next.length:Int)),(8,vI (k:Int))] ρ) (fun k=>d.next.length-k) 0 ?_ ?_
 ·exact⟨O,F,Nat.zero_le _,h0,(.of F)⟩
 rintro k ρ O ⟨O1,rfl,hk,hJ,hH⟩
 obtain⟨fE,rfl⟩:=hH.elim
 clear hH
 refine ai (ad (bT F F) (ae (aB (aC F (fun hc=>?_) (fun hc=>?_)))))
 ·have iS:k<d.next.length:=by omega
  obtain⟨vb,vc,g1,s1⟩:=h.rows.get iS
  refine av (aB (aG (ai (ah F (ad (cV (i:=k) du bV F F (ay h.outer)) (ad (cd bK F F (ay h.outer) g1) (aj F (aj F (ae (ai (ah F (ah F (ah F ?_)))))))))))))
  have oF:=dn.under (B:=eQ) (O:=(eQ++O1)) (hy k iS vb vc O1 g1 s1 hJ) (fC [])
  refine ak F (dx oF F F ?_)
  clear oF
  rintro v O' ⟨O2,rfl,⟨rfl,Ru⟩|⟨rfl,Xk⟩⟩
  ·refine ad (gy F) ?_
   refine ae (aL F (av ?_))
   refine ck (O':=oI bx 25 [(vI d.vars),(vI d.start),(.slice nb d.next.length nc),(.slice fb d.ax.length fc)]::O2) (fC []) ?_
   refine aJ (ad (jD F F (by omega)) (ah F (ae ?_)))
   exact⟨k+1,by omega,O2,F,by omega,Ru,(.of F)⟩
  refine ad (gy F) (ae ?_)
  refine bj F ?_
  refine aA (ap ?_)
  refine pD.zero Tryz.results82 ?_
  exact⟨O2,fC eQ,.inr Xk⟩
 have HW: ¬k<d.next.length:=by omega
 refine bJ ?_
 refine ap ?_
 refine pD.zero Tryz.results82 ?_
 have Rr:k=d.next.length:=by omega
 subst Rr
 exact⟨O1,fC eQ,.inl hJ⟩
theorem Mm (w:World) [cG Tryz.prog w] (d:bU) (nb fb:Option Addr) (nc fc:Nat) (vs:List Value) (h:fZ w d nb vs fb) (hv:Valid d) (cb:Option Addr) (cc:Nat) (cs:List Nat) (Bp:Sl w cb (aX cs)) (l_:cs.length=d.next.length) (BP: ∀x∈cs,x<10000):
  bI Tryz.prog 119 [.agg (dB d nb nc fb fc).toArray,.slice cb d.next.length cc] w fun v N=> ∃b c,v=.slice b d.next.length c∧N=[am b c 3 1 (aX (gu d cs))]:=by
 refine aw func119 F ntmps119 F ?_
 have hb:d.next.length<9223372036854775807:=by have:=hv.n4;omega
 have KB:=h.rows.1
 have Wn:=hv.n4
 refine ai (ak F (cH (cs:=[(vI d.vars),(vI d.start),(.slice nb d.next.length nc),(.slice fb d.ax.length fc)]) F F (fun b1=>?_)))
 refine ak F (cH (cs:=[(.slice cb d.next.length cc)]) F F (fun b2=>?_))
 refine aj F (ae (ai (ak F (i_ str (fun n:Nat=>Value.int .i64 (n:Int)) (fun m3=>?_)))))
 refine ak F (aR yP F (fun b4=>?_))
 refine ak F (a8 (vs:=[(.map (some m3))]) 0 yP F F F F ?_)
 refine ae (ai (ad (dQ) (ak F (aR I5 F (fun b5=>?_)))))
 refine ak F (a8 (vs:=[(.func (.func 168) #[] #[(.pointer (aD b4))])]) 0 I5 F F F F ?_)
 refine ae (ai (ad (aQ 3 bK F F F F) (ad (bS bK F) (ak F (bX (m:=d.next.length) bK aO F F (by omega) (by omega) (fun b6=>?_))))))
 refine ak F (aR bV F (fun b7=>?_))
 refine ak F (a8 (vs:=[(.slice (aD b6) d.next.length d.next.length)]) 0 bV F F F F ?_)
 refine ae (aB (ai (ad (dh 6 bW F aY F F F) ?_)))
 have oz:=fun(w1:World) (hI:Inv w [oI b7 56 [(.slice (aD b6) d.next.length d.next.length)],am (aD b6) d.next.length 3 1 (List.replicate d.next.length (vI 0)),oI b5 180 [(.func (.func 168) #[] #[(.pointer (aD b4))])],oI b4 160 [(.map (some m3))],cm str (fun n:Nat=>Value.int .i64 (n:Int)) m3 [],oI b2 56 [(.slice cb d.next.length cc)],oI b1 25 [(vI d.vars),(vI d.start),(.slice nb d.next.length nc),(.slice fb d.ax.length fc)]] w1)=>(haveI:=di hI;N1 w1 d nb fb nc fc)
 refine ak F (aP NU (aI oz) F ?_)
 clear oz
 rintro v O' ⟨N,rfl,bR,rfl,rfl⟩
 refine ae (aG ?_)
 refine T.rangeFunc (first:=[]) (eY:=[(.pointer (aD bR))]) F NW (fun yl yq QU=>?_)
 refine bm.mono (bm.sub (O':=oI bR 25 [(vI d.vars),(vI d.start),(.slice nb d.next.length nc),(.slice fb d.ax.length fc)]::(cR yl (lp yq none)::[oI b7 56 [(.slice (aD b6) d.next.length d.next.length)],am (aD b6) d.next.length 3 1 (List.replicate d.next.length (vI 0)),oI b5 180 [(.func (.func 168) #[] #[(.pointer (aD b4))])],oI b4 160 [(.map (some m3))],cm str (fun n:Nat=>Value.int .i64 (n:Int)) m3 [],oI b2 56 [(.slice cb d.next.length cc)],oI b1 25 [(vI d.vars),(vI d.start),(.slice nb d.next.length nc),(.slice fb d.ax.length fc)]])) (ar [1,0,0,0,0,0,0,0,0] F) (N2 w d nb fb nc fc vs h hb bR (.func (.yield yl) #[] #[]) (fun k O=> ∃(xs:List Nat) (ks:List (List UInt8)),O=cR yl (lp yq none)::[oI b7 56 [(.slice (aD b6) d.next.length d.next.length)],am (aD b6) d.next.length 3 1 (aX xs),oI b5 180 [(.func (.func 168) #[] #[(.pointer (aD b4))])],oI b4 160 [(.map (some m3))],cm str (fun n:Nat=>Value.int .i64 (n:Int)) m3 ks.zipIdx,oI b2 56 [(.slice cb d.next.length cc)],oI b1 25 [(vI d.vars),(vI d.start),(.slice nb d.next.length nc),(.slice fb d.ax.length fc)]]∧k≤d.next.length∧xs.length=d.next.length∧ks=dd ((gE d cs).take k)∧(∀s,s<k→xs[s]? =some (ix (vQ d cs s) ks))) (fun _=>False) ?_ _ ?_)) ?_
 ·intro k eV vb vc O g1 s1 hJ
  obtain⟨xs,ks,rfl,hk,B8,lV,lS⟩:=hJ
  refine dn.yield QU F F ?_
  have UL:k<cs.length:=by omega
  have qf:d.next[k].length=2^d.vars.toNat:=hv.len _ (List.getElem_mem eV)
  have E8:d.next[k].length≤64:=by
   rw[qf];have:=hv.v6;have:=hv.v0
   exact Nat.le_trans (Nat.pow_le_pow_right (by omega) (show d.vars.toNat≤6 by omega)) (by decide)
  have Xl:ks.length<1000000:=by
   have h1:=sJ ((gE d cs).take k)
   have h2:((gE d cs).take k).length≤d.next.length:=by rw[List.length_take];simp[gE];omega
   rw[lV];omega
  have tx: ∀j (hj:j<d.next[k].length),0≤d.next[k][j]∧d.next[k][j].toNat<cs.length:=fun j hj=>by have:=hv.ok _ (List.getElem_mem eV) _ (List.getElem_mem hj);omega
  have Rv:cs[k]<10000:=BP _ (List.getElem_mem UL)
  have BU: ∀x∈dP cs d.next[k],x<10000:=Mn BP
  refine ai (aj F (ae (aJ (aj F (ae (aG (aB (T.dJ 5 1 ?_))))))))
  refine aJ (ad (aQ 6 bK F F F F) (ah F (ad (cV (i:=k) bK aO F F (ay Bp)) (ad (cd cS F F (ay Bp) fO) ?_))))
  have Jz:=bm.under (B:=[oI b7 56 [(.slice (aD b6) d.next.length d.next.length)],am (aD b6) d.next.length 3 1 (aX xs),oI b5 180 [(.func (.func 168) #[] #[(.pointer (aD b4))])],oI b4 160 [(.map (some m3))],cm str (fun n:Nat=>Value.int .i64 (n:Int)) m3 ks.zipIdx,oI b2 56 [(.slice cb d.next.length cc)],oI b1 25 [(vI d.vars),(vI d.start),(.slice nb d.next.length nc),(.slice fb d.ax.length fc)]]) (O:=[am none 0 5 1 (bZ []),oI b7 56 [(.slice (aD b6) d.next.length d.next.length)],am (aD b6) d.next.length 3 1 (aX xs),oI b5 180 [(.func (.func 168) #[] #[(.pointer (aD b4))])],oI b4 160 [(.map (some m3))],cm str (fun n:Nat=>Value.int .i64 (n:Int)) m3 ks.zipIdx,oI b2 56 [(.slice cb d.next.length cc)],oI b1 25 [(vI d.vars),(vI d.start),(.slice nb d.next.length nc),(.slice fb d.ax.length fc)]]) (Pe w none 0 0 0 cs[k] [] F (Nat.lt_trans Rv (by decide)) (by omega)) (ar [0,0,0,0,0,0,0,0] F)
  refine ak F (aP yu Jz F ?_)
  clear Jz
  rintro v O' ⟨A1,rfl,kb,kc,rfl,rfl⟩
  refine aj F (ae (aB (ai (ah F (ad (bS bK F) (ah F (ae (aG ?_))))))))
  refine dm (fun(j:Nat) ρ O=> ∃(kb:Option Addr) (kc m:Nat),O=[am kb kc 5 1 (bZ (fP cs[k] (List.take j (dP cs d.next[k])))),oI b7 56 [(.slice (aD b6) d.next.length d.next.length)],am (aD b6) d.next.length 3 1 (aX xs),oI b5 180 [(.func (.func 168) #[] #[(.pointer (aD b4))])],oI b4 160 [(.map (some m3))],cm str (fun n:Nat=>Value.int .i64 (n:Int)) m3 ks.zipIdx,oI b2 56 [(.slice cb d.next.length cc)],oI b1 25 [(vI d.vars),(vI d.start),(.slice nb d.next.length nc),(.slice fb d.ax.length fc)]]∧j≤d.next[k].length∧m=(fP cs[k] (List.take j (dP cs d.next[k]))).length∧cw [(0,(.agg #[(vI d.vars),(vI d.start),(.slice nb d.next.length nc),(.slice fb d.ax.length fc)])),(1,(.slice cb d.next.length cc)),(2,(.pointer (aD b1))),(3,(.pointer (aD b2))),(4,nS),(5,(.pointer (aD b4))),(6,(.pointer (aD b5))),(7,(.pointer (aD b7))),(8,vI (k:Int)),(9,(.slice vb d.next[k].length vc)),(10,(.slice kb m kc)),(27,(.slice vb d.next[k].length vc)),(28,vI (d.next[k].length:Int)),(29,vI (j:Int))] ρ) (fun j=>d.next[k].length-j) 0 ?_ ?_
  ·refine⟨kb,kc,_,?_,Nat.zero_le _,?_,(.of F)⟩
   ·rw[show fP cs[k] (List.take 0 (dP cs d.next[k]))=[]++Lib.decDigits cs[k] by simp[fP,gU]]
    rfl
   ·simp[fP,gU]
  rintro j ρ O ⟨kb,kc,m,rfl,hj,hm,hH⟩
  obtain⟨fE,rfl⟩:=hH.elim
  clear hH
  have hm9:m≤324:=by
   have:=JA Rv (fun x hx=>BU x (List.mem_of_mem_take hx): ∀x∈List.take j (dP cs d.next[k]),x<10000)
   rw[List.length_take]at this;omega
  refine ai (ad (bT F F) (ae (aB (aC F (fun hc=>?_) (fun hc=>?_)))))
  ·have gm:j<d.next[k].length:=by omega
   have htj:=(tx j gm).2
   refine av (aB (aG (ai (ad (cV (i:=j) bK aO F F (ay s1)) (ad (cd cS F F (ay s1) fp) (aj F (ae ?_)))))))
   refine T.ds [oI b2 56 [(.slice cb d.next.length cc)]] [(0,0),(3,0),(4,0),(5,0),(6,0),(1,1),(2,1),(7,2),(8,2)] (ar [6] F) ?_
   refine ao F (az F) (ao F (aQ 0 bK F F F F) (ao F (az F) (ao F (Dx (i:=d.next[k][j]) bK aO F F (ay Bp) (tx j gm).1 (l_▸(tx j gm).2) (by rw[List.length_map];exact(tx j gm).2)) (ao F (cd cS F F (ay Bp) (fO (tx j gm).2)) ?_))))
   refine bo F F (bM (v:=.int .u8 32) lj cI F F F (fun b8=>⟨ar [7] F,?_⟩))
   refine bo F F (bY 1 lj lj cI F F F F (by rw[List.length_map,←hm,Nat.mul_one]) (by decide) (Src.row (j:=0) F (by simp)) (by simp[dS]) (by omega) (by decide) (by decide) (fun b9 Xm=>⟨ar [7] F,?_⟩))
   have mu:=bm.under (B:=[am (aD b8) 1 5 1 [.int .u8 32],oI b7 56 [(.slice (aD b6) d.next.length d.next.length)],am (aD b6) d.next.length 3 1 (aX xs),oI b5 180 [(.func (.func 168) #[] #[(.pointer (aD b4))])],oI b4 160 [(.map (some m3))],cm str (fun n:Nat=>Value.int .i64 (n:Int)) m3 ks.zipIdx,oI b2 56 [(.slice cb d.next.length cc)],oI b1 25 [(vI d.vars),(vI d.start),(.slice nb d.next.length nc),(.slice fb d.ax.length fc)]]) (O:=[am (aD b8) 1 5 1 [.int .u8 32],am b9 Xm 5 1 ((bZ (fP cs[k] (List.take j (dP cs d.next[k]))))++[.int .u8 32]),oI b7 56 [(.slice (aD b6) d.next.length d.next.length)],am (aD b6) d.next.length 3 1 (aX xs),oI b5 180 [(.func (.func 168) #[] #[(.pointer (aD b4))])],oI b4 160 [(.map (some m3))],cm str (fun n:Nat=>Value.int .i64 (n:Int)) m3 ks.zipIdx,oI b2 56 [(.slice cb d.next.length cc)],oI b1 25 [(vI d.vars),(vI d.start),(.slice nb d.next.length nc),(.slice fb d.ax.length fc)]]) (Pe w b9 Xm Xm (m+1) cs[d.next[k][j].toNat] (fP cs[k] (List.take j (dP cs d.next[k]))++[32]) (by rw[List.length_append,←hm];rfl) (Nat.lt_trans (BP _ (List.getElem_mem (tx j gm).2)) (by decide)) (by omega)) (by rw[Br];exact(ar [1,0,0,0,0,0,0,0,0] F))
   refine bq F F (aP yu mu F ?_)
   clear mu
   rintro v O' ⟨A1,rfl,Zq,Zr,rfl,rfl⟩
   refine dL (O':=[am Zq Zr 5 1 (bZ (fP cs[k] (List.take j (dP cs d.next[k]))++[32]++Lib.decDigits cs[d.next[k][j].toNat])),oI b7 56 [(.slice (aD b6) d.next.length d.next.length)],am (aD b6) d.next.length 3 1 (aX xs),oI b5 180 [(.func (.func 168) #[] #[(.pointer (aD b4))])],oI b4 160 [(.map (some m3))],cm str (fun n:Nat=>Value.int .i64 (n:Int)) m3 ks.zipIdx,oI b2 56 [(.slice cb d.next.length cc)],oI b1 25 [(vI d.vars),(vI d.start),(.slice nb d.next.length nc),(.slice fb d.ax.length fc)]]) (ar [0,1,1,1,1,1,1,1] F) ?_
   refine bq F F (dw F F (bt F) ?_)
   refine bw ?_
   refine aJ (ad (jD F F (by omega)) (ah F (ae ?_)))
   have wq:=JB (a:=cs[k]) gm (tx j gm).2
   refine⟨j+1,by omega,Zq,Zr,_,by rw[wq],by omega,?_,(.of F)⟩
   rw[wq,List.length_append,List.length_append,←hm];rfl
  have DF: ¬j<d.next[k].length:=by omega
  refine bJ ?_
  have Zs:j=d.next[k].length:=by omega
  have N3:List.take j (dP cs d.next[k])=dP cs d.next[k]:=List.take_of_length_le (by simp[dP];omega)
  have Zt:vQ d cs k=fP cs[k] (dP cs d.next[k]):=Mo eV UL
  refine T.ds [am kb kc 5 1 (bZ (fP cs[k] (List.take j (dP cs d.next[k])))),oI b7 56 [(.slice (aD b6) d.next.length d.next.length)],am (aD b6) d.next.length 3 1 (aX xs),oI b5 180 [(.func (.func 168) #[] #[(.pointer (aD b4))])],oI b4 160 [(.map (some m3))],oI b2 56 [(.slice cb d.next.length cc)],oI b1 25 [(vI d.vars),(vI d.start),(.slice nb d.next.length nc),(.slice fb d.ax.length fc)]] [(0,0),(1,0),(2,0),(3,0),(4,0),(5,1),(6,0),(7,2)] (ar [0,0,0,0,0,1,1] F) ?_
  refine ao F (aQ 1 bK F F F F) (ao F (az F) (ao F (aQ 3 UM F F F F) (ao F (az F) (ao F (zQ (l:=fP cs[k] (List.take j (dP cs d.next[k]))) lj ra eu F (mG 0 F) hm.symm) ?_))))
  have UN:=bQ (first:=[]) (args:=[str (fP cs[k] (List.take j (dP cs d.next[k])))]) (eY:=[(.pointer (aD b4))]) QH (bm.under (B:=[am kb kc 5 1 (bZ (fP cs[k] (List.take j (dP cs d.next[k])))),oI b7 56 [(.slice (aD b6) d.next.length d.next.length)],am (aD b6) d.next.length 3 1 (aX xs),oI b5 180 [(.func (.func 168) #[] #[(.pointer (aD b4))])],oI b2 56 [(.slice cb d.next.length cc)],oI b1 25 [(vI d.vars),(vI d.start),(.slice nb d.next.length nc),(.slice fb d.ax.length fc)]]) (O:=[am kb kc 5 1 (bZ (fP cs[k] (List.take j (dP cs d.next[k])))),oI b7 56 [(.slice (aD b6) d.next.length d.next.length)],am (aD b6) d.next.length 3 1 (aX xs),oI b5 180 [(.func (.func 168) #[] #[(.pointer (aD b4))])],oI b4 160 [(.map (some m3))],cm str (fun n:Nat=>Value.int .i64 (n:Int)) m3 ks.zipIdx,oI b2 56 [(.slice cb d.next.length cc)],oI b1 25 [(vI d.vars),(vI d.start),(.slice nb d.next.length nc),(.slice fb d.ax.length fc)]]) (Xj w b4 m3 ks (fP cs[k] (List.take j (dP cs d.next[k]))) Xl) (ar [4,4,0,0,0,0,0,0] F))
  refine bo F F (dx UN F F ?_)
  clear UN
  rintro v O' ⟨A1,rfl,rfl,rfl⟩
  refine⟨ar [2,2,2,2,0,1,1] F,?_⟩
  refine dL (O':=[am kb kc 5 1 (bZ (fP cs[k] (List.take j (dP cs d.next[k])))),oI b7 56 [(.slice (aD b6) d.next.length d.next.length)],am (aD b6) d.next.length 3 1 (aX xs),oI b5 180 [(.func (.func 168) #[] #[(.pointer (aD b4))])],oI b4 160 [(.map (some m3))],cm str (fun n:Nat=>Value.int .i64 (n:Int)) m3 ((add ks (fP cs[k] (List.take j (dP cs d.next[k])))).zipIdx),oI b2 56 [(.slice cb d.next.length cc)],oI b1 25 [(vI d.vars),(vI d.start),(.slice nb d.next.length nc),(.slice fb d.ax.length fc)]]) (ar [2,2,2,2,0,0,0,0] F) ?_
  refine ao F (cV (i:=k) bK aO F F (cP (mG 2 F))) ?_
  refine bq F F (lB (j:=k) (v:=vI ((ix (fP cs[k] (List.take j (dP cs d.next[k]))) (add ks (fP cs[k] (List.take j (dP cs d.next[k])))):Nat):Int)) (vs:=[(vI ((ix (fP cs[k] (List.take j (dP cs d.next[k]))) (add ks (fP cs[k] (List.take j (dP cs d.next[k])))):Nat):Int))]) (cs:=aX xs) 2 aO F F F F F (by simp) F (by first|(simp;omega)|(simp_all;omega)) ?_)
  refine dL (O':=[am kb kc 5 1 (bZ (fP cs[k] (List.take j (dP cs d.next[k])))),oI b7 56 [(.slice (aD b6) d.next.length d.next.length)],am (aD b6) d.next.length 3 1 (aX (xs.set k (ix (fP cs[k] (List.take j (dP cs d.next[k]))) (add ks (fP cs[k] (List.take j (dP cs d.next[k]))))))),oI b5 180 [(.func (.func 168) #[] #[(.pointer (aD b4))])],oI b4 160 [(.map (some m3))],cm str (fun n:Nat=>Value.int .i64 (n:Int)) m3 ((add ks (fP cs[k] (List.take j (dP cs d.next[k])))).zipIdx),oI b2 56 [(.slice cb d.next.length cc)],oI b1 25 [(vI d.vars),(vI d.start),(.slice nb d.next.length nc),(.slice fb d.ax.length fc)]]) (by rw[show dK (aX xs) k [(vI ((ix (fP cs[k] (List.take j (dP cs d.next[k]))) (add ks (fP cs[k] (List.take j (dP cs d.next[k])))):Nat):Int))]=aX (xs.set k (ix (fP cs[k] (List.take j (dP cs d.next[k]))) (add ks (fP cs[k] (List.take j (dP cs d.next[k]))))))from by simp[dK]];exact bn (List.Sublist.refl _)) ?_
  refine dL (O':=[oI b7 56 [(.slice (aD b6) d.next.length d.next.length)],am (aD b6) d.next.length 3 1 (aX (xs.set k (ix (fP cs[k] (List.take j (dP cs d.next[k]))) (add ks (fP cs[k] (List.take j (dP cs d.next[k]))))))),oI b5 180 [(.func (.func 168) #[] #[(.pointer (aD b4))])],oI b4 160 [(.map (some m3))],cm str (fun n:Nat=>Value.int .i64 (n:Int)) m3 ((add ks (fP cs[k] (List.take j (dP cs d.next[k])))).zipIdx),oI b2 56 [(.slice cb d.next.length cc)],oI b1 25 [(vI d.vars),(vI d.start),(.slice nb d.next.length nc),(.slice fb d.ax.length fc)]]) (ar [1,1,1,1,1,1,1] F) ?_
  refine bw ?_
  refine .inl ⟨F,xs.set k (ix (fP cs[k] (List.take j (dP cs d.next[k]))) (add ks (fP cs[k] (List.take j (dP cs d.next[k]))))),add ks (fP cs[k] (List.take j (dP cs d.next[k]))),F,by omega,by simp[B8],?_,?_⟩
  ·rw[C8 eV,yX,←lV,Zt,N3]
  ·intro s hs
   by_cases e:s=k
   ·subst e;rw[List.getElem?_set_self (by omega),Zt,N3]
   ·rw[List.getElem?_set_ne (fun h=>e h.symm),lS s (by omega)]
    refine congrArg some (e_ (gk _ _) ?_).symm
    rw[lV];exact iz.2 (JC (by omega) (by omega))
 ·refine⟨List.replicate d.next.length 0,[],?_,Nat.zero_le _,by simp,by simp[dd],fun s hs=>absurd hs (by omega)⟩
  simp
 rintro v O' (⟨xs,ks,rfl,hk,B8,lV,lS⟩|hF)
 rotate_left
 ·exact hF.elim
 refine⟨none,_,F,?_⟩
 refine ai (ad (aQ 0 bK F F F F) (aj F (ae (aA (ap ?_)))))
 refine aE (.slice (aD b6) d.next.length d.next.length) Tryz.results119 F ?_
 have hx:xs=gu d cs:=by
  apply List.ext_getElem?
  intro s
  by_cases hs:s<d.next.length
  ·rw[lS s hs,lV,List.take_of_length_le (by simp[gE])];simp[gu,gE,hs]
  ·rw[List.getElem?_eq_none (by omega),List.getElem?_eq_none (by simp[gu,gE];omega)]
 exact⟨[am (aD b6) d.next.length 3 1 (aX xs)],(ar [1] F),_,_,F,by rw[hx]⟩
theorem QV (w:World) [cG Tryz.prog w] (d:bU) (nb fb:Option Addr) (nc fc:Nat) (vs:List Value) (h:fZ w d nb vs fb) (hv:Valid d):
  bI Tryz.prog 118 [.agg (dB d nb nc fb fc).toArray] w fun v N=> ∃b c,v=.slice b d.next.length c∧N=[am b c 3 1 (aX (kx d))]:=by
 refine aw func118 F ntmps118 F ?_
 have Wn:=hv.n4
 have Oy:=hv.n0
 have pP:=hv.fin
 let jj:Value:=(.slice fb d.ax.length fc)
 let il:Value:=(.slice nb d.next.length nc)
 refine ai (ak F (cH (cs:=[(vI d.vars),(vI d.start),il,jj]) F F (fun b1=>?_)))
 refine aj F (ae (ai (ad (aN bW F dM F F) (ad (aQ 0 du F F F F) (ad (bS du F) (ak F (bX (m:=d.next.length) bK aO F F (by omega) (by omega) (fun b2=>?_))))))))
 refine aj F (ae (aB (ai (ah F (ad (bS bK F) (ah F (ae (aG ?_))))))))
 refine dm (fun(k:Nat) ρ O=> ∃(xs:List Nat),O=[am (aD b2) d.next.length 3 1 (aX xs),oI b1 25 [(vI d.vars),(vI d.start),il,jj]]∧k≤d.next.length∧xs.length=d.next.length∧(∀s,s<k→xs[s]? =some (if d.ax.getD s false≠d.ax.getD 0 false then 1 else 0))∧(∀s,k≤s→s<d.next.length→xs[s]? =some 0)∧cw [(0,(.agg #[(vI d.vars),(vI d.start),il,jj])),(1,(.pointer (aD b1))),(2,nS),(3,(.slice (aD b2) d.next.length d.next.length)),(10,vI (d.next.length:Int)),(11,vI (k:Int))] ρ) (fun k=>d.next.length-k) 0 ?_ ?_
 ·refine⟨List.replicate d.next.length 0,by simp,Nat.zero_le _,by simp,fun s hs=>absurd hs (by omega),fun s _ hs=>by simp[hs],(.of F)⟩
 rintro k ρ O ⟨xs,rfl,hk,B8,JD,JE,hH⟩
 obtain⟨fE,rfl⟩:=hH.elim
 clear hH
 refine ai (ad (bT F F) (ae (aB (aC F (fun hc=>?_) (fun hc=>?_)))))
 ·have AC:k<d.next.length:=by omega
  have QW:k<d.ax.length:=by omega
  have Zu:0<d.ax.length:=by omega
  have Zv:k<xs.length:=by omega
  refine av (aB (aG (ai (ah F (aj F (ae (aB ?_)))))))
  refine T.ds [oI b1 25 [(vI d.vars),(vI d.start),il,jj]] [(0,0),(1,0),(2,0),(3,0),(4,0),(5,0),(6,0),(7,0),(8,0),(9,0)] (ar [1] F) ?_
  refine ao F (aN bW F cA F F) (ao F (aQ 0 df F F F F) (ao F (az F) (ao F (cV (i:=k) df dU F F (ay h.ax)) (ao F (cd zi F F (ay h.ax) fY) (ao F (aN bW F cA F F) (ao F (aQ 0 df F F F F) (ao F (cV (i:=0) df dU F F (ay h.ax)) (ao F (cd zi F F (ay h.ax) fY) (ao F (G1 zi F F) ?_)))))))))
  refine bw ?_
  refine aC (p:= ¬d.ax[k]=d.ax[0]) (congrArg Value.bool (by cases d.ax[k]<;>cases d.ax[0]<;>rfl)) (fun hc=>?_) (fun hc=>?_)
  ·refine aJ ?_
   refine ah F (ah F (ad (cV (i:=k) bK aO F F (cP (mG 0 F))) (ak F (lB (j:=k) (v:=vI 1) (vs:=[(vI 1)]) (cs:=aX xs) 0 aO F F F F F (by simp) F (by first|(simp;omega)|(simp_all;omega)) ?_))))
   refine cQ (O':=[am (aD b2) d.next.length 3 1 (aX (xs.set k 1)),oI b1 25 [(vI d.vars),(vI d.start),il,jj]]) (by rw[show dK (aX xs) k [(vI 1)]=aX (xs.set k 1)from by simp[dK]];exact bn (List.Sublist.refl _)) ?_
   refine ae (aJ (ad (jD F F (by omega)) (ah F (ae ?_))))
   refine⟨k+1,by omega,xs.set k 1,F,by omega,by simp[B8],fun s hs=>?_,fun s h1 h2=>?_,(.of F)⟩
   ·by_cases e:s=k
    ·subst e;rw[List.getElem?_set_self (by omega)];simp[QW,Zu,hc]
    ·rw[List.getElem?_set_ne (fun h=>e h.symm)];exact JD s (by omega)
   ·rw[List.getElem?_set_ne (by omega)];exact JE s (by omega) h2
  refine av (aJ (ad (jD F F (by omega)) (ah F (ae ?_))))
  refine⟨k+1,by omega,xs,F,by omega,B8,fun s hs=>?_,fun s h1 h2=>JE s (by omega) h2,(.of F)⟩
  by_cases e:s=k
  ·subst e;rw[JE _ (Nat.le_refl _) AC];simp[QW,Zu,Classical.not_not.1 hc]
  ·exact JD s (by omega)
 have Nn: ¬k<d.next.length:=by omega
 refine bJ ?_
 refine ai (ah F (aj F (ae (aA (ap ?_)))))
 refine aE (.slice (aD b2) d.next.length d.next.length) Tryz.results118 F ?_
 have hx:xs=kx d:=by
  apply List.ext_getElem?
  intro s
  by_cases hs:s<d.next.length
  ·rw[JD s (by omega)];simp[kx,hs]
  ·rw[List.getElem?_eq_none (by omega),List.getElem?_eq_none (by simp[kx];omega)]
 exact⟨[am (aD b2) d.next.length 3 1 (aX xs)],(ar [0] F),_,_,F,by rw[hx]⟩
theorem tI (w:World) [cG Tryz.prog w] (b1 b2:Option Addr) (c1 c2 n:Nat) (xs ys:List Nat) (h1:Sl w b1 (aX xs)) (h2:Sl w b2 (aX ys)) (hx:xs.length=n) (hy:ys.length=n) (hb:n<9223372036854775807):
  bI Tryz.prog 120 [.slice b1 n c1,.slice b2 n c2] w fun v N=>v=.bool (decide (xs=ys))∧N=[]:=by
 refine aw func120 F ntmps120 F ?_
 refine ai (aj F (ae (aB (ai (ah F (ad (bS bK F) (ah F (ad (bS bK F) (ad (cT F F) (ae (aC F (fun hc=>?_) (fun hc=>?_))))))))))))
 ·exact absurd hc (by omega)
 have ta: ¬n≠n:=by omega
 refine av (aB (ai (ah F (ad (bS bK F) (ah F (ae (aG ?_)))))))
 refine dm (fun(k:Nat) ρ O=>O=[]∧k≤n∧xs.take k=ys.take k∧cw [(0,(.slice b1 n c1)),(1,(.slice b2 n c2)),(12,vI (n:Int)),(13,vI (k:Int))] ρ) (fun k=>n-k) 0 ?_ ?_
 ·exact⟨F,Nat.zero_le _,F,⟨F,F,F,F,trivial⟩⟩
 rintro k ρ O ⟨rfl,hk,he,hH⟩
 obtain⟨fE,rfl⟩:=hH.elim
 clear hH
 refine ai (ad (bT F F) (ae (aB (aC F (fun hc=>?_) (fun hc=>?_)))))
 ·have nF:k<n:=by omega
  have Zv:k<xs.length:=by omega
  have hky:k<ys.length:=by omega
  refine av (aB (aG (ai (ah F (aj F (ae (aB ?_)))))))
  refine eD [(0,0),(1,0),(2,0),(3,0),(4,0),(5,0),(6,0),(7,0),(8,0)] ?_
  refine ao F (az F) (ao F (az F) (ao F (cV (i:=k) bK aO F F (ay h1)) (ao F (cd cS F F (ay h1) fO) (ao F (az F) (ao F (az F) (ao F (cV (i:=k) bK aO F F (ay h2)) (ao F (cd cS F F (ay h2) fO) (ao F (cT F F) ?_))))))))
  refine bw ?_
  refine aC (p:= ¬xs[k]=ys[k]) (congrArg Value.bool (decide_eq_decide.2 (by omega))) (fun hc=>?_) (fun hc=>?_)
  ·have jE:xs[k]≠ys[k]:=by omega
   refine ai (aj F (ae (aA ?_)))
   refine aE (.bool false) Tryz.results120 F ?_
   exact⟨congrArg Value.bool (decide_eq_false (fun e=>hc (by subst e;rfl))).symm,F⟩
  have zy: ¬xs[k]≠ys[k]:=by omega
  refine av (aJ (ad (jD F F (by omega)) (ah F (ae ?_))))
  refine⟨k+1,by omega,F,by omega,?_,⟨F,F,F,F,trivial⟩⟩
  rw[List.take_succ_eq_append_getElem Zv,List.take_succ_eq_append_getElem hky,he]
  exact congrArg _ (congrArg (fun z=>[z]) (Classical.not_not.1 hc))
 have vu: ¬k<n:=by omega
 refine bJ ?_
 refine ai (aj F (ae (aA ?_)))
 refine aE (.bool true) Tryz.results120 F ?_
 exact⟨congrArg Value.bool (decide_eq_true (show xs=ys by rw[List.take_of_length_le (by omega),List.take_of_length_le (by omega)]at he;exact he)).symm,F⟩
theorem F7 (w:World) [cG Tryz.prog w] (d:bU) (nb fb:Option Addr) (nc fc:Nat) (vs:List Value) (h:fZ w d nb vs fb) (hb:d.next.length<9223372036854775807) (rQ: ∀r∈d.next,r.length<9223372036854775807) (tN:d.ax.length<9223372036854775807) (he:cE d≠0) (k:Int):
  bI Tryz.prog 81 [.agg (dB d nb nc fb fc).toArray,vI k] w fun v N=>v=.tuple #[nS,vI (cE d:Int)]∧N=[]:=by
 refine aw func81 F ntmps81 F ?_
 refine ai (ak F (cH (cs:=[(vI d.vars),(vI d.start),(.slice nb d.next.length nc),(.slice fb d.ax.length fc)]) F F (fun b1=>?_)))
 refine aj F (aj F (ae (aB (ai (ad (dh 0 bW F aY F F F) ?_)))))
 have oB:=fun(w1:World) (hI:Inv w [oI b1 25 [(vI d.vars),(vI d.start),(.slice nb d.next.length nc),(.slice fb d.ax.length fc)]] w1)=>(haveI:=di hI;gF w1 d nb fb nc fc vs (hI.zP h) hb rQ tN)
 refine ak F (aP tA (aI oB) F ?_)
 clear oB
 rintro v O' ⟨N,rfl,rfl,rfl⟩
 refine aj F (ae (ai (ah F (ad (aq (cT F F) (decide_eq_true (by omega))) (ae ?_)))))
 refine bj F ?_
 refine ai (ah F (aj F (aj F (ae (aA (ap ?_))))))
 refine cy nS (vI (cE d:Int)) Tryz.results81 F F ?_
 exact⟨[],bn (List.nil_sublist _),F,F⟩
theorem JF (w:World) [cG Tryz.prog w] (d:bU) (nb fb:Option Addr) (nc fc:Nat) (vs:List Value) (h:fZ w d nb vs fb) (hv:Valid d) (hn:d.next.length<10000) (k:Int) (s8:k≤9223372036854775807):
  bI Tryz.prog 81 [.agg (dB d nb nc fb fc).toArray,vI k] w fun v N=> ∃b c,v=.tuple #[.slice b d.next.length c,vI 0]∧N=[am b c 3 1 (aX (fN d k.toNat))]:=by
 refine aw func81 F ntmps81 F ?_
 have he:=dq.2 hv
 have hb:d.next.length<9223372036854775807:=by omega
 have rQ: ∀r∈d.next,r.length<9223372036854775807:=hv.uA
 have tN:d.ax.length<9223372036854775807:=by have:=hv.fin;omega
 let iL:Value:=(.slice fb d.ax.length fc)
 let pN:Value:=(.slice nb d.next.length nc)
 refine ai (ak F (cH (cs:=[(vI d.vars),(vI d.start),pN,iL]) F F (fun b1=>?_)))
 refine aj F (aj F (ae (aB (ai (ad (dh 0 bW F aY F F F) ?_)))))
 have oB:=fun(w1:World) (hI:Inv w [oI b1 25 [(vI d.vars),(vI d.start),pN,iL]] w1)=>(haveI:=di hI;gF w1 d nb fb nc fc vs (hI.zP h) hb rQ tN)
 refine ak F (aP tA (aI oB) F ?_)
 clear oB
 rintro v O' ⟨N,rfl,rfl,rfl⟩
 rw[he]
 refine aj F (ae (ai (ah F (ad (cT F F) (ae (aL F (av (ai (ad (dh 0 bW F aY F F F) ?_)))))))))
 have HV:=fun(w1:World) (hI:Inv w [oI b1 25 [(vI d.vars),(vI d.start),pN,iL]] w1)=>(haveI:=di hI;QV w1 d nb fb nc fc vs (hI.zP h) hv)
 refine ak F (aP QA (aI HV) F ?_)
 clear HV
 rintro v O' ⟨N,rfl,b0,c0,rfl,rfl⟩
 refine aj F (ae (aB (ai (ah F (ah F (ae (aG ?_)))))))
 refine dm (fun(i:Nat) ρ O=> ∃(b:Option Addr) (c:Nat),O=[am b c 3 1 (aX (fN d i)),oI b1 25 [(vI d.vars),(vI d.start),pN,iL]]∧i≤k.toNat∧cw [(0,(.agg #[(vI d.vars),(vI d.start),pN,iL])),(1,vI k),(2,(.pointer (aD b1))),(4,nS),(5,vI 0),(6,vN 0),(7,(.slice b d.next.length c)),(16,vI k),(17,vI (i:Int))] ρ) (fun i=>k.toNat-i) 0 ?_ ?_
 ·exact⟨b0,c0,F,Nat.zero_le _,(.of F)⟩
 rintro i ρ O ⟨b,c,rfl,Rf,hH⟩
 obtain⟨fE,rfl⟩:=hH.elim
 clear hH
 refine ai (ad (bT F F) (ae (aB (aC F (fun hc=>?_) (fun hc=>?_)))))
 ·have hik:i<k.toNat:=by omega
  refine av (aB (aG (ai (ad (dh 1 bW F aY F F F) (ah F ?_)))))
  have UO:=fun(w1:World) (hI:Inv w [am b c 3 1 (aX (fN d i)),oI b1 25 [(vI d.vars),(vI d.start),pN,iL]] w1)=>(haveI:=di hI;Mm w1 d nb fb nc fc vs (hI.zP h) hv b c (fN d i) (hI.fV (mG 0 F)) (dX d i) (JG hn i))
  refine ak F (aP QB (aI UO) F ?_)
  clear UO
  rintro v O' ⟨N,rfl,b9,c9,rfl,rfl⟩
  refine aj F (ae (aB (ai (ah F (ah F ?_)))))
  by_cases wq:gu d (fN d i)=fN d i
  ·have vn:=fun(w1:World) (hI:Inv w [am b9 c9 3 1 (aX (gu d (fN d i))),am b c 3 1 (aX (fN d i)),oI b1 25 [(vI d.vars),(vI d.start),pN,iL]] w1)=>(haveI:=di hI;tI w1 b9 b c9 c d.next.length (gu d (fN d i)) (fN d i) (hI.fV (mG 0 F)) (hI.fV (mG 1 F)) (dX d (i+1)) (dX d i) (by omega))
   refine ak F (aP I8 (aI vn) F ?_)
   clear vn
   rintro v O' ⟨N,rfl,rfl,rfl⟩
   rw[decide_eq_true wq]
   refine ae ?_
   refine bj F ?_
   refine bJ ?_
   refine ai (ah F (aj F (aj F (ae (aA (ap ?_))))))
   refine cy (.slice b d.next.length c) (vI 0) Tryz.results81 F F ?_
   have hx:fN d k.toNat=fN d i:=qC wq _ Rf
   exact⟨[am b c 3 1 (aX (fN d i))],(ar [1] F),_,_,F,by rw[hx]⟩
  have vn:=fun(w1:World) (hI:Inv w [am b9 c9 3 1 (aX (gu d (fN d i))),am b c 3 1 (aX (fN d i)),oI b1 25 [(vI d.vars),(vI d.start),pN,iL]] w1)=>(haveI:=di hI;tI w1 b9 b c9 c d.next.length (gu d (fN d i)) (fN d i) (hI.fV (mG 0 F)) (hI.fV (mG 1 F)) (dX d (i+1)) (dX d i) (by omega))
  refine ak F (aP I8 (aI vn) F ?_)
  clear vn
  rintro v O' ⟨N,rfl,rfl,rfl⟩
  rw[decide_eq_false wq]
  refine ae (aL F (av (aJ (ah F (aj F (ae (aJ (ad (jD F F (by omega)) (ah F ?_)))))))))
  refine cQ (O':=[am b9 c9 3 1 (aX (gu d (fN d i))),oI b1 25 [(vI d.vars),(vI d.start),pN,iL]]) (ar [0,1] F) ?_
  refine ae ?_
  exact⟨i+1,by omega,b9,c9,F,by omega,(.of F)⟩
 refine bJ ?_
 refine ai (ah F (aj F (aj F (ae (aA (ap ?_))))))
 refine cy (.slice b d.next.length c) (vI 0) Tryz.results81 F F ?_
 have hx:fN d k.toNat=fN d i:=by rw[show k.toNat=i by omega]
 exact⟨[am b c 3 1 (aX (fN d i))],(ar [0] F),_,_,F,by rw[hx]⟩
theorem C9 (w:World) [cG Tryz.prog w] (d:bU) (nb fb:Option Addr) (nc fc:Nat) (vs:List Value) (h:fZ w d nb vs fb) (hb:d.next.length<9223372036854775807) (rQ: ∀r∈d.next,r.length<9223372036854775807) (tN:d.ax.length<9223372036854775807) (he:cE d≠0):
  bI Tryz.prog 50 [.agg (dB d nb nc fb fc).toArray] w fun v N=>v=.tuple #[nS,vI (cE d:Int)]∧N=[]:=by
 refine aw func50 F ntmps50 F ?_
 refine ai (ak F (cH (cs:=[(vI d.vars),(vI d.start),(.slice nb d.next.length nc),(.slice fb d.ax.length fc)]) F F (fun b1=>?_)))
 refine aj F (aj F (ae (ai (ad (dh 0 bW F aY F F F) (ad (aN bW F dM F F) (ad (aQ 0 du F F F F) (ad (bS du F) ?_)))))))
 have DL:=fun(w1:World) (hI:Inv w [oI b1 25 [(vI d.vars),(vI d.start),(.slice nb d.next.length nc),(.slice fb d.ax.length fc)]] w1)=>(haveI:=di hI;F7 w1 d nb fb nc fc vs (hI.zP h) hb rQ tN he d.next.length)
 refine ak F (aP NV (aI DL) F ?_)
 clear DL
 rintro v O' ⟨N,rfl,rfl,rfl⟩
 refine ad (aV (vs:=_) F F) (ad (aV (vs:=_) F F) (aj F (aj F (ae (aA (ap ?_))))))
 refine cy nS (vI (cE d:Int)) Tryz.results50 F F ?_
 exact⟨[],bn (List.nil_sublist _),F,F⟩
theorem F8 (w:World) [cG Tryz.prog w] (d:bU) (nb fb:Option Addr) (nc fc:Nat) (vs:List Value) (h:fZ w d nb vs fb) (hv:Valid d) (hn:d.next.length<10000):
  bI Tryz.prog 50 [.agg (dB d nb nc fb fc).toArray] w fun v N=> ∃b c,v=.tuple #[.slice b d.next.length c,vI 0]∧N=[am b c 3 1 (aX (fN d d.next.length))]:=by
 refine aw func50 F ntmps50 F ?_
 refine ai (ak F (cH (cs:=[(vI d.vars),(vI d.start),(.slice nb d.next.length nc),(.slice fb d.ax.length fc)]) F F (fun b1=>?_)))
 refine aj F (aj F (ae (ai (ad (dh 0 bW F aY F F F) (ad (aN bW F dM F F) (ad (aQ 0 du F F F F) (ad (bS du F) ?_)))))))
 have DL:=fun(w1:World) (hI:Inv w [oI b1 25 [(vI d.vars),(vI d.start),(.slice nb d.next.length nc),(.slice fb d.ax.length fc)]] w1)=>(haveI:=di hI;JF w1 d nb fb nc fc vs (hI.zP h) hv hn d.next.length (by omega))
 refine ak F (aP NV (aI DL) F ?_)
 clear DL
 rintro v O' ⟨N,rfl,b,c,rfl,rfl⟩
 refine ad (aV (vs:=_) F F) (ad (aV (vs:=_) F F) (aj F (aj F (ae (aA (ap ?_))))))
 refine cy (.slice b d.next.length c) (vI 0) Tryz.results50 F F ?_
 exact⟨[am b c 3 1 (aX (fN d d.next.length))],(ar [0] F),_,_,F,F⟩
end Go.Proofs.YtgdbfideeeegmaaGreatDoor

namespace Go.Proofs.YtgdbfideeeegmaaGreatDoor
open Go.Lx Go.RowKit _root_.Go.Proofs.Tryz
theorem J2 (base:World) [cG Tryz.prog base] (bx m:Nat) (ks:List (List UInt8)) (key:List UInt8) (hk:key∈ks) (hb:ks.length<1000000):
  bm Tryz.prog base 124 [str key,.pointer (aD bx)] [cR bx (.cells #[.map (some m)] 160 (0,0)),cm str (fun n:Nat=>Value.int .i64 (n:Int)) m ks.zipIdx] (fun v O'=>v=vN (ix key (add ks key))∧O'=[cR bx (.cells #[.map (some m)] 160 (0,0)),cm str (fun n:Nat=>Value.int .i64 (n:Int)) m (add ks key).zipIdx]):=by
 refine aw func124 F ntmps124 F ?_
 refine ai (aj F (ae (ai (ad (aQ 0 fL F F F F) (ah F (ad (a7 (gL (a:=key) fL aO (eN.string ra) F F (mG 1 F)) (v':=(.tuple #[vN (ix key ks),.bool true])) (by rw[iE];simp[hk])) (ah F (ad (aV (vs:=_) F F) (ad (aV (vs:=_) F F) (aj F (aj F (ae (aB (ai (ah F (ad (gy F) (ae ?_)))))))))))))))))
 refine aL F (av (ai (ah F (aj F (ae (aA ?_))))))
 refine aE (vN (ix key ks)) Tryz.results124 F ?_
 have ha:add ks key=ks:=if_pos hk
 rw[ha];exact⟨F,F⟩
theorem Gj (base:World) [cG Tryz.prog base] (bx m:Nat) (ks:List (List UInt8)) (key:List UInt8) (hk:key∉ks) (hb:ks.length<1000000):
  bm Tryz.prog base 124 [str key,.pointer (aD bx)] [cR bx (.cells #[.map (some m)] 160 (0,0)),cm str (fun n:Nat=>Value.int .i64 (n:Int)) m ks.zipIdx] (fun v O'=>v=vN (ix key (add ks key))∧O'=[cR bx (.cells #[.map (some m)] 160 (0,0)),cm str (fun n:Nat=>Value.int .i64 (n:Int)) m (add ks key).zipIdx]):=by
 refine aw func124 F ntmps124 F ?_
 refine ai (aj F (ae (ai (ad (aQ 0 fL F F F F) (ah F (ad (a7 (gL (a:=key) fL aO (eN.string ra) F F (mG 1 F)) (v':=(.tuple #[vI 0,.bool false])) (by rw[iE];simp[hk])) (ah F (ad (aV (vs:=_) F F) (ad (aV (vs:=_) F F) (aj F (aj F (ae (aB (ai (ah F (ad (gy F) (ae ?_)))))))))))))))))
 refine bj F ?_
 refine ai (ad (aQ 0 fL F F F F) (ad (a7 (og fL F (mG 1 F)) (v':=vN ks.length) (by simp)) (aj F (ae (aJ (ad (aQ 0 fL F F F F) (ah F (ah F (ak F (me (a:=key) (v:=ks.length) 1 fL (eN.string ra) F F F F (by rw[jN];exact hk) ?_))))))))))
 refine ae (ai (ah F (aj F (ae (aA ?_)))))
 refine aE (vN ks.length) Tryz.results124 F ?_
 have ha:add ks key=ks++[key]:=if_neg hk
 rw[ha]
 refine⟨by rw[ei hk];simp[ix],?_⟩
 rw[show(ks++[key]).zipIdx=ks.zipIdx++[(key,ks.length)] by rw[List.zipIdx_append];simp];rfl
theorem U8 (base:World) [cG Tryz.prog base] (bx m:Nat) (ks:List (List UInt8)) (key:List UInt8) (hb:ks.length<1000000):
  bm Tryz.prog base 124 [str key,.pointer (aD bx)] [cR bx (.cells #[.map (some m)] 160 (0,0)),cm str (fun n:Nat=>Value.int .i64 (n:Int)) m ks.zipIdx] (fun v O'=>v=vN (ix key (add ks key))∧O'=[cR bx (.cells #[.map (some m)] 160 (0,0)),cm str (fun n:Nat=>Value.int .i64 (n:Int)) m (add ks key).zipIdx]):=by
 by_cases hk:key∈ks
 ·exact J2 base bx m ks key hk hb
 ·exact Gj base bx m ks key hk hb
theorem J3 (base:World) [cG Tryz.prog base] (tr:List UInt8→Nat→List UInt8) (L B:Nat) (start:List UInt8) (fv:Value) (J:List (List UInt8)→List Lx.Item→Prop) (Good:List (List UInt8)→Prop) (hL:L≤64) (hB:B≤4096)
  (hn: ∀(ks:List (List UInt8)) (s x:Nat) (O:List Lx.Item),s<ks.length→x<L→Good ks→J ks O→dn Tryz.prog base fv [vI (s:Int),.int .u8 (x:Int)] O (fun v O'=>v=str (tr (ks.getD s []) x)∧Good (add ks (tr (ks.getD s []) x))∧J (add ks (tr (ks.getD s []) x)) O'))
  (hg: ∀ks,Good ks→ks.length≤B) (O:List Lx.Item) (h0:Good [start]) (X_:J [start] O):
  bm Tryz.prog base 86 [vI (L:Int),vI (B:Int),str start,fv] O (fun v O'=> ∃b c qs N O1,v=.tuple #[.slice b N c,.bool true]∧O'=am b c 56 1 (bO qs)::(a_ 3 qs++O1)∧J (tV tr L start N) O1∧Good (tV tr L start N)∧(tV tr L start N).length=N∧ni tr L (tV tr L start N) N (nums qs)∧ ∀i,i<N→i<(tV tr L start i).length):=by
 refine aw func86 F ntmps86 F ?_
 refine ai (aj F (aj F (ae ?_)))
 refine T.scope ?_ (fun _ _ _ h=>h)
 refine ai (ak F (i_ str (fun n:Nat=>Value.int .i64 (n:Int)) (fun m1=>?_)))
 refine ah F (ak F (ep (a:=start) (v:=(0:Nat)) 0 fL (eN.string ra) F F F F (by simp) ?_))
 refine ah F (ak F (aR yP F (fun b2=>?_)))
 refine ak F (a8 (vs:=[(.map (some m1))]) 0 yP F F F F ?_)
 refine ae (ai (ad (dQ) (aj F (ae (aB ?_)))))
 refine T.label ?_
 refine aB (ai (aj F (ae (aG (T.dJ 56 1 ?_)))))
 refine dm (fun(s:Nat) ρ O=> ∃(ks:List (List UInt8)) (qs:List Rec) (ob:Option Addr) (oc:Nat) (O1:List Lx.Item),O=([am ob oc 56 1 (bO qs),oI b2 160 [(.map (some m1))],cm str (fun n:Nat=>Value.int .i64 (n:Int)) m1 ks.zipIdx]++(a_ 3 qs++O1))∧tV tr L start s=ks∧Good ks∧J ks O1∧ni tr L ks s (nums qs)∧(∀i,i<s→i<(tV tr L start i).length)∧cw [(0,vI (L:Int)),(1,vI (B:Int)),(2,str start),(3,fv),(8,(.slice ob s oc)),(9,.bool false),(10,(.pointer (aD b2))),(11,(.func (.func 124) #[] #[(.pointer (aD b2))])),(12,vI (s:Int))] ρ) (fun s=>B-s) 0 ?_ ?_
 ·exact⟨[start],[],none,0,O,F,F,h0,X_,⟨F,by simp,fun i hi=>absurd hi (by omega),fun i hi=>absurd hi (by omega)⟩,fun i hi=>absurd hi (by omega),(.of F)⟩
 rintro s ρ O ⟨ks,qs,ob,oc,O1,rfl,lV,hG,hJ,hE,iA,hH⟩
 obtain⟨fE,rfl⟩:=hH.elim
 clear hH
 have hgl:=hg _ hG
 have DG:qs.length=s:=by have:=hE.len;simpa using this
 refine aB (ai (ah F (ad (aQ 1 fL F F F F) (ad (a7 (og fL F (mG 2 F)) (v':=vI (ks.length:Int)) (by rw[List.length_zipIdx])) (ad (bT F F) (ae (aC F (fun hc=>?_) (fun hc=>?_))))))))
 ·have q7:s<ks.length:=by omega
  refine av (aB (aG (ai (ah F (ak F (bX (m:=L) bK aO F F (by omega) (by omega) (fun b3=>?_)))))))
  refine aj F (ae (aB (ai (ah F (ad (bS bK F) (ah F (ae (aG ?_))))))))
  refine dm (fun(x:Nat) ρ O=> ∃(cX:List (List UInt8)) (ys:List Int) (O2:List Lx.Item),O=([am (aD b3) L 3 1 (ints ys),am ob oc 56 1 (bO qs),oI b2 160 [(.map (some m1))],cm str (fun n:Nat=>Value.int .i64 (n:Int)) m1 cX.zipIdx]++(a_ 3 qs++O2))∧x≤L∧ys.length=L∧Good cX∧J cX O2∧cX=((List.range x).map (tr (ks.getD s []))).foldl add ks∧(∀i,i<x→ys[i]? =some ((ix (tr (ks.getD s []) i) cX:Nat):Int))∧cw [(0,vI (L:Int)),(1,vI (B:Int)),(2,str start),(3,fv),(8,(.slice ob s oc)),(9,.bool false),(10,(.pointer (aD b2))),(11,(.func (.func 124) #[] #[(.pointer (aD b2))])),(12,vI (s:Int)),(13,(.slice (aD b3) L L)),(28,vI (L:Int)),(29,vI (x:Int))] ρ) (fun x=>L-x) 0 ?_ ?_
  ·exact⟨ks,List.replicate L 0,O1,by simp,Nat.zero_le _,by simp,hG,hJ,F,fun i hi=>absurd hi (by omega),(.of F)⟩
  rintro x ρ O ⟨cX,ys,O2,rfl,hx,wD,VQ,Ru,lC,tW,hH⟩
  obtain⟨fE,rfl⟩:=hH.elim
  clear hH
  have abN:=hg _ VQ
  have nL:ks<+:cX:=lC▸eL _ _
  have lY:cX.getD s []=ks.getD s []:=je nL q7
  have Pn:=nL.length_le
  refine ai (ad (bT F F) (ae (aB (aC F (fun hc=>?_) (fun hc=>?_)))))
  ·have gm:x<L:=by omega
   refine av (aB (aG (ai (ah F (aj F (ae (ai (ah F (ah F (ah F (ah F (ah F (ah F (ad (et cS eu F (show IntKind.u8.wrap (x:Int)=(x:Int) by unfold IntKind.wrap;simp[IntKind.bits,IntKind.signed];omega)) ?_))))))))))))))
   have U9:=dn.under (B:=[am (aD b3) L 3 1 (ints ys),am ob oc 56 1 (bO qs),oI b2 160 [(.map (some m1))],cm str (fun n:Nat=>Value.int .i64 (n:Int)) m1 cX.zipIdx]++a_ 3 qs) (O:=([am (aD b3) L 3 1 (ints ys),am ob oc 56 1 (bO qs),oI b2 160 [(.map (some m1))],cm str (fun n:Nat=>Value.int .i64 (n:Int)) m1 cX.zipIdx]++(a_ 3 qs++O2))) (hn cX s x O2 (by omega) gm VQ Ru) (fC [])
   refine ak F (dx U9 F F ?_)
   clear U9
   rintro v O' ⟨O3,rfl,rfl,Ya,ZT⟩
   refine cQ (O':=([am (aD b3) L 3 1 (ints ys),am ob oc 56 1 (bO qs),oI b2 160 [(.map (some m1))],cm str (fun n:Nat=>Value.int .i64 (n:Int)) m1 cX.zipIdx]++(a_ 3 qs++O3))) (fC []) ?_
   rw[lY]at Ya ZT⊢
   have mu:=bQ (first:=[]) (args:=[str (tr (ks.getD s []) x)]) (eY:=[(.pointer (aD b2))]) QC (bm.under (B:=[am (aD b3) L 3 1 (ints ys),am ob oc 56 1 (bO qs)]++(a_ 3 qs++O3)) (O:=([am (aD b3) L 3 1 (ints ys),am ob oc 56 1 (bO qs),oI b2 160 [(.map (some m1))],cm str (fun n:Nat=>Value.int .i64 (n:Int)) m1 cX.zipIdx]++(a_ 3 qs++O3))) (U8 base b2 m1 cX (tr (ks.getD s []) x) (by have:=hg _ VQ;omega)) (iZ [2,2,0,0] [am (aD b3) L 3 1 (ints ys),am ob oc 56 1 (bO qs),oI b2 160 [(.map (some m1))],cm str (fun n:Nat=>Value.int .i64 (n:Int)) m1 cX.zipIdx] (a_ 3 qs++O3) F F))
   refine ak F (dx mu F F ?_)
   clear mu
   rintro v O' ⟨A1,rfl,rfl,rfl⟩
   refine cQ (O':=([am (aD b3) L 3 1 (ints ys),am ob oc 56 1 (bO qs),oI b2 160 [(.map (some m1))],cm str (fun n:Nat=>Value.int .i64 (n:Int)) m1 ((add cX (tr (ks.getD s []) x)).zipIdx)]++(a_ 3 qs++O3))) (iZ [2,2,0,0] [oI b2 160 [(.map (some m1))],cm str (fun n:Nat=>Value.int .i64 (n:Int)) m1 ((add cX (tr (ks.getD s []) x)).zipIdx),am (aD b3) L 3 1 (ints ys),am ob oc 56 1 (bO qs)] (a_ 3 qs++O3) F F) ?_
   refine ad (cV (i:=x) bK aO F F (cP (mG 0 F))) (ak F (lB (j:=x) (v:=vN (ix (tr (ks.getD s []) x) (add cX (tr (ks.getD s []) x)))) (vs:=[(vN (ix (tr (ks.getD s []) x) (add cX (tr (ks.getD s []) x))))]) (cs:=ints ys) 0 aO F F F F F (by simp) F (by first|(simp;omega)|(simp_all;omega)) ?_))
   refine cQ (O':=([am (aD b3) L 3 1 (ints (ys.set x ((ix (tr (ks.getD s []) x) (add cX (tr (ks.getD s []) x)):Nat):Int))),am ob oc 56 1 (bO qs),oI b2 160 [(.map (some m1))],cm str (fun n:Nat=>Value.int .i64 (n:Int)) m1 ((add cX (tr (ks.getD s []) x)).zipIdx)]++(a_ 3 qs++O3))) (by rw[show dK (ints ys) x [(vN (ix (tr (ks.getD s []) x) (add cX (tr (ks.getD s []) x))))]=ints (ys.set x ((ix (tr (ks.getD s []) x) (add cX (tr (ks.getD s []) x)):Nat):Int))from by simp[dK]];exact bn (List.Sublist.refl _)) ?_
   refine ae (ai (ad (aQ 2 fL F F F F) (ad (a7 (og fL F (mG 3 F)) (v':=vI ((add cX (tr (ks.getD s []) x)).length:Int)) (by rw[List.length_zipIdx])) (ah F (ad (fW F F) (ae (aC F (fun hc=>?_) (fun hc=>?_))))))))
   ·exact absurd hc (by have:=hg _ Ya;omega)
   have Ur: ¬(add cX (tr (ks.getD s []) x)).length>B:=by omega
   refine av (aJ (ad (jD F F (by omega)) (ah F (ae ?_))))
   have wE: ∀y,y<x→tr (ks.getD s []) y∈cX:=fun y hy=>by rw[lC,dc];exact .inr (List.mem_map_of_mem (List.mem_range.2 hy))
   refine⟨x+1,by omega,add cX (tr (ks.getD s []) x),ys.set x ((ix (tr (ks.getD s []) x) (add cX (tr (ks.getD s []) x)):Nat):Int),O3,F,by omega,by simp[wD],Ya,ZT,by rw[fw,←lC],fun i hi=>?_,(.of F)⟩
   by_cases e:i=x
   ·subst e;rw[List.getElem?_set_self (by omega)]
   ·rw[List.getElem?_set_ne (fun h=>e h.symm),tW i (by omega),e_ (gk _ _) (wE i (by omega))]
  have DF: ¬x<L:=by omega
  refine bJ ?_
  refine aJ (ah F (ah F (ak F (bM (v:=(.slice (aD b3) L L)) du bV F F F (fun b4=>?_)))))
  refine ak F (bY 2 du du bV F F F F (by simp[DG]) (by decide) (Src.row (j:=0) F (by simp)) (by simp[dS]) (by omega) (by decide) (by decide) (fun b5 c6=>?_))
  refine aj F (ae ?_)
  refine ck (O':=[am b5 c6 56 1 (bO (qs++[⟨(aD b3),L,ys⟩])),oI b2 160 [(.map (some m1))],cm str (fun n:Nat=>Value.int .i64 (n:Int)) m1 cX.zipIdx]++(a_ 3 (qs++[⟨(aD b3),L,ys⟩])++O2)) (by
   rw[show bO (qs++[⟨(aD b3),L,ys⟩])=(bO qs)++[(.slice (aD b3) L L)] by simp[Rec.val,wD]]
   exact Sub.ud [am (aD b4) 1 56 1 [(.slice (aD b3) L L)]] (by intro a;simp only[List.set_cons_zero,List.set_cons_succ,a_,List.map_append,List.map_cons,List.map_nil,Rec.qG,mY,mb,Du,vI,nS,aD,List.cons_append,List.nil_append,List.append_assoc,List.append_nil]<;>omega)) ?_
  refine aJ (ah F (ad (jD F F (by omega)) (aj F (ae ?_))))
  have BT:x=L:=by omega
  have wE: ∀y,y<L→tr (ks.getD s []) y∈cX:=fun y hy=>by rw[lC,dc];exact .inr (List.mem_map_of_mem (List.mem_range.2 (by omega)))
  have LB:ys=iu tr L cX s:=by
   apply List.ext_getElem?
   intro i
   by_cases hi:i<L
   ·rw[tW i (by omega)];simp only[iu,lY];simp[hi]
   ·rw[List.getElem?_eq_none (by omega),List.getElem?_eq_none (by simp[iu];omega)]
  have K5:ni tr L cX (s+1) (nums (qs++[⟨(aD b3),L,ys⟩])):=by
   have:=hE.snoc nL q7 LB (by rw[lY];exact wE)
   simpa[nums]using this
  have Yb: ∀i,i<s+1→i<(tV tr L start i).length:=fun i hi=>by
   by_cases e:i=s
   ·subst e;rw[lV];exact q7
   ·exact iA i (by omega)
  exact⟨s+1,by omega,cX,qs++[⟨(aD b3),L,ys⟩],b5,c6,O2,F,by rw[tV,lV,lC,BT],VQ,Ru,K5,Yb,(.of F)⟩
 have xj: ¬s<ks.length:=by omega
 refine bJ ?_
 refine ai (ah F (ad (aQ 1 fL F F F F) (ad (a7 (og fL F (mG 2 F)) (v':=vI (ks.length:Int)) (by rw[List.length_zipIdx])) (ah F (ad (aq (Dr F F) (decide_eq_true (by have:=hg _ hG;omega))) (aj F (aj F (ae (aA (ap ?_))))))))))
 refine cy (.slice ob s oc) (.bool true) Tryz.results86 F F ?_
 have hN:ks.length=s:=by have:=hE.le;omega
 exact⟨_,(iZ [0] [am ob oc 56 1 (bO qs),oI b2 160 [(.map (some m1))],cm str (fun n:Nat=>Value.int .i64 (n:Int)) m1 ks.zipIdx] (a_ 3 qs++O1) F F),ob,oc,qs,s,O1,F,F,by rw[lV];exact hJ,by rw[lV];exact hG,by rw[lV];exact hN,by rw[lV];exact hE,iA⟩
theorem U_ (base:World) [cG Tryz.prog base] (d:bU) (nb fb:Option Addr) (nc fc:Nat) (vs:List Value) (h:fZ base d nb vs fb) (hv:Valid d) (hn:d.next.length<10000) (b1 b2 b3:Nat) (os:List Nat) (sn:List Bool) (ob sb:Option Addr) (oc sc Ki s x:Nat) (hs:s<os.length) (hx:x<2^d.vars.toNat) (F6: ∀o∈os,o<d.next.length) (jO:os.Nodup) (Hd:sn.length=d.next.length) (pm: ∀t,t<d.next.length→sn[t]? =some (decide (t∈os))):
  bm Tryz.prog base 84 ([vI (s:Int),.int .u8 (x:Int)]++[.pointer (aD b1),.pointer (aD b2),.pointer (aD b3)])
   [oI b1 25 [(vI d.vars),(vI d.start),(.slice nb d.next.length nc),(.slice fb d.ax.length fc)],oI b2 56 [(.slice ob os.length oc)],am ob oc 3 1 (aX os),oI b3 23 [(.slice sb d.next.length sc)],am sb Ki 4 1 (bf sn)]
   (fun v O'=>v=str (Lib.decDigits (dY d os[s] x))∧ ∃VR VS Va,Va.length=d.next.length∧(∀t,t<d.next.length→Va[t]? =some (decide (t∈add os (dY d os[s] x))))∧O'=[oI b1 25 [(vI d.vars),(vI d.start),(.slice nb d.next.length nc),(.slice fb d.ax.length fc)],oI b2 56 [(.slice VR ((add os (dY d os[s] x)).length) VS)],am VR VS 3 1 (aX (add os (dY d os[s] x))),oI b3 23 [(.slice sb d.next.length sc)],am sb Ki 4 1 (bf Va)]):=by
 refine aw func84 F ntmps84 F ?_
 obtain⟨o,Kh⟩: ∃o,os[s]=o:=⟨_,F⟩
 have Yc:os[s]? =some o:=by rw[List.getElem?_eq_getElem hs,Kh]
 have ho:o<d.next.length:=Kh▸F6 _ (List.getElem_mem hs)
 obtain⟨t,ht⟩: ∃t,dY d o x=t:=⟨_,F⟩
 obtain⟨VT,_,Yd,ZU⟩:=hv.fF ho hx
 rw[ht]at VT ZU
 rw[Kh,ht]
 have KB:=h.rows.1
 have hw:=hv.width
 obtain⟨vb,vc,g1,s1⟩:=h.rows.get ho
 have WQ:(ints d.next[o])[x]? =some (vN t):=by rw[fp Yd,ZU]
 have PU:=dE jO F6
 have wq:=pm t VT
 have Lt:t<sn.length:=by omega
 refine ai (aj F (ae (aB ?_)))
 refine eD [(0,0),(1,0),(2,0),(3,0),(4,0),(5,0),(6,0),(7,0),(8,0),(9,0),(10,0),(11,0)] ?_
 refine ao F (aN bW F dM F F) (ao F (aQ 0 du F F F F) (ao F (aQ 1 bK F F F F) (ao F (az F) ?_)))
 refine ao F (cV (i:=s) bK aO F F (cP (mG 2 F)) hs (by rw[List.length_map];exact hs)) (ao F (cd cS F F (cP (mG 2 F)) (show(aX os)[s]? =some (vN o) by rw[List.getElem?_map,Yc];rfl)) (ao F (cV (i:=o) du bV F F (ay h.outer) ho) (ao F (cd bK F F (ay h.outer) g1) ?_)))
 refine ao F (az F) (ao F (cV (i:=x) bK aO F F (ay s1) Yd (by rw[List.length_map];exact Yd)) (ao F (cd cS F F (ay s1) WQ) (ao F (bt F) ?_)))
 refine bw ?_
 refine aB (ai ?_)
 refine ad (aQ 3 df F F F F) (ah F (ad (cV (i:=t) df dU F F (cP (mG 4 F)) VT (by rw[List.length_map];exact Lt)) (ad (cd zi F F (cP (mG 4 F)) (show(bf sn)[t]? =some (.bool (decide (t∈os))) by rw[List.getElem?_map,wq];rfl)) ?_)))
 refine ad (gy F) (ae (aC (p:=t∉os) (congrArg Value.bool (by simp)) (fun hc=>?_) (fun hc=>?_)))
 ·let il:Lx.Item:=oI b1 25 [(vI d.vars),(vI d.start),(.slice nb d.next.length nc),(.slice fb d.ax.length fc)]
  refine p9 [il,oI b3 23 [(.slice sb d.next.length sc)],am sb Ki 4 1 (bf sn)] [oI b2 56 [(.slice ob os.length oc)]] [(0,0),(1,0),(2,3),(3,0),(4,1),(5,1),(6,4),(7,0),(8,2)] mixed (by kernel_rfl) (ar [0,2,2] F) (ar [1] F) (fun _ _ _ _ h=>h) ?_
  refine ao F (aQ 1 df F F F F) (ao F (az F) ?_)
  refine cK F (aQ 0 bK F F F F) ?_
  refine ao F (az F) ?_
  refine p8 F F (bM (v:=vN t) bK aO F F F (fun z1=>⟨ar [1,3,3] F,ar [2] F,?_⟩))
  refine p8 F F (bY 3 bK bK aO F F F F (by simp) (by decide) (Src.row (j:=0) F (by simp)) (by simp[dS]) (by omega) (by decide) (by decide) (fun z2 sk=>⟨ar [1,3,3] F,ar [2] F,?_⟩))
  refine uI F F (a8 (vs:=[(.slice z2 (os.length+1) sk)]) 2 bV F F F F ⟨ar [1,3,3] F,?_⟩)
  refine ao F (cV (i:=t) df dU F F (cP (mG 2 F)) VT (by rw[List.length_map];exact Lt)) ?_
  refine bq F F (lB (j:=t) (v:=.bool true) (vs:=[(.bool true)]) (cs:=bf sn) 5 dU F F F F F (by simp) F (by first|(simp;omega)|(simp_all;omega)) ?_)
  let eQ:List Lx.Item:=[am (aD z1) 1 3 1 [vN t],oI b1 25 [(vI d.vars),(vI d.start),(.slice nb d.next.length nc),(.slice fb d.ax.length fc)],oI b2 56 [(.slice z2 (os.length+1) sk)],am z2 sk 3 1 ((aX os)++[vN t]),oI b3 23 [(.slice sb d.next.length sc)],am sb Ki 4 1 (bf (sn.set t true))]
  refine dL (O':=eQ) (by rw[show dK (bf sn) t [(.bool true)]=bf (sn.set t true)from by simp[dK]];exact bn (List.Sublist.refl _)) ?_
  refine bw ?_
  refine ai (ah F ?_)
  have u5:=fun(w1:World) (hI:Inv base eQ w1)=>(haveI:=di hI;J4 w1 t (by omega))
  refine ak F (aP I7 (aI u5) F ?_)
  clear u5
  rintro v O' ⟨N,rfl,rfl,rfl⟩
  refine aj F (ae (aA (ap ?_)))
  refine aE (str (Lib.decDigits t)) Tryz.results84 F ?_
  have ha:add os t=os++[t]:=if_neg hc
  refine⟨[il,oI b2 56 [(.slice z2 (os.length+1) sk)],am z2 sk 3 1 ((aX os)++[vN t]),oI b3 23 [(.slice sb d.next.length sc)],am sb Ki 4 1 (bf (sn.set t true))],(ar [1,1,1,1,1] F),F,z2,sk,sn.set t true,by simp[Hd],fun t2 Rk=>?_,?_⟩
  ·rw[ha]
   by_cases e:t2=t
   ·subst e;rw[List.getElem?_set_self Lt];simp
   ·rw[List.getElem?_set_ne (fun h=>e h.symm),pm t2 Rk];simp[e]
  ·rw[ha,List.length_append,show aX (os++[t])=aX os++[vN t]from List.map_append];rfl
 refine av (ai (ah F ?_))
 let jj:List Lx.Item:=[oI b1 25 [(vI d.vars),(vI d.start),(.slice nb d.next.length nc),(.slice fb d.ax.length fc)],oI b2 56 [(.slice ob os.length oc)],am ob oc 3 1 (aX os),oI b3 23 [(.slice sb d.next.length sc)],am sb Ki 4 1 (bf sn)]
 have u5:=fun(w1:World) (hI:Inv base jj w1)=>(haveI:=di hI;J4 w1 t (by omega))
 refine ak F (aP I7 (aI u5) F ?_)
 clear u5
 rintro v O' ⟨N,rfl,rfl,rfl⟩
 refine aj F (ae (aA (ap ?_)))
 refine aE (str (Lib.decDigits t)) Tryz.results84 F ?_
 have ha:add os t=os:=if_pos (Classical.not_not.1 hc)
 refine⟨jj,(ar [0,0,0,0,0] F),F,ob,oc,sn,Hd,fun t2 Rk=>?_,?_⟩
 ·rw[ha];exact pm t2 Rk
 ·rw[ha]
def Q6 (d:bU) (nb fb:Option Addr) (nc fc b1 bB bC bD:Nat) (ks:List (List UInt8)) (O:List Lx.Item):Prop:=
 ∃(os:List Nat) (sn:List Bool) (ob:Option Addr) (oc:Nat),ks=os.map Lib.decDigits∧O=[cR b1 (.cells (List.toArray [(vI d.vars),(vI d.start),(.slice nb d.next.length nc),(.slice fb d.ax.length fc)]) 25 (0,0)),cR bC (.cells (List.toArray [(.slice ob os.length oc)]) 56 (0,0)),am ob oc 3 1 (aX os),cR bD (.cells (List.toArray [(.slice (aD bB) d.next.length d.next.length)]) 23 (0,0)),am (aD bB) d.next.length 4 1 (bf sn)]∧os.Nodup∧(∀o∈os,o<d.next.length)∧sn.length=d.next.length∧(∀t,t<d.next.length→sn[t]? =some (decide (t∈os)))
set_option maxRecDepth 20000 in
theorem Vb (base:World) [cG Tryz.prog base] (d:bU) (nb fb:Option Addr) (nc fc:Nat) (vs:List Value) (h:fZ base d nb vs fb) (hv:Valid d) (hn:d.next.length<10000) (b1 bB bC bD:Nat) (ks:List (List UInt8)) (s x:Nat) (O:List Lx.Item) (hs:s<ks.length) (hx:x<2^d.vars.toNat) (hJ:Q6 d nb fb nc fc b1 bB bC bD ks O):
  dn Tryz.prog base (.func (.func 84) #[] #[.pointer (aD b1),.pointer (aD bC),.pointer (aD bD)]) [vI (s:Int),.int .u8 (x:Int)] O
   (fun v O'=>v=str (BY d (ks.getD s []) x)∧(add ks (BY d (ks.getD s []) x)).length≤d.next.length∧Q6 d nb fb nc fc b1 bB bC bD (add ks (BY d (ks.getD s []) x)) O'):=by
 obtain⟨os,sn,ob,oc,rfl,rfl,jO,F6,Hd,pm⟩:=hJ
 have Ov:s<os.length:=by simpa using hs
 have e:(os.map Lib.decDigits).getD s []=Lib.decDigits os[s]:=by simp[Ov]
 have e2:BY d ((os.map Lib.decDigits).getD s []) x=Lib.decDigits (dY d os[s] x):=by rw[e,BY,sT]
 have hT:=(hv.fF (F6 _ (List.getElem_mem Ov)) hx).1
 have Vc: ∀o∈add os (dY d os[s] x),o<d.next.length:=fun o ho=>by
  rcases pA.1 ho with ho|ho
  ·exact F6 o ho
  ·rw[ho];exact hT
 refine dn.mono (bQ (first:=[]) (eY:=[.pointer (aD b1),.pointer (aD bC),.pointer (aD bD)]) UE (U_ base d nb fb nc fc vs h hv hn b1 bC bD os sn ob (aD bB) oc d.next.length d.next.length s x Ov hx F6 jO Hd pm)) ?_
 rintro v O' ⟨rfl,VR,VS,Va,h1,h2,rfl⟩
 rw[e2,←ES m_]
 refine⟨F,?_,add os (dY d os[s] x),Va,VR,VS,F,F,kT jO,Vc,h1,h2⟩
 rw[List.length_map];exact dE (kT jO) Vc
end Go.Proofs.YtgdbfideeeegmaaGreatDoor


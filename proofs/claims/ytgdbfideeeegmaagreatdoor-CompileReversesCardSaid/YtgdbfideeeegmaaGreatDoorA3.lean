/- Contracts of functions of the program, and what they answer. Conditions: those each theorem names. -/
import Derived.Test.YtgdbfideeeegmaaGreatDoorA2
import Derived.Test.YtgdbfideeeegmaaGreatDoorA1
import Derived.Shelf.Strconv.Itoa3
import Derived.Test.YtgdbfideeeegmaaGreatDoorProg
import Derived.Test.YtgdbfideeeegmaaGreatDoorA0
set_option linter.unusedSectionVars false
set_option linter.unusedSimpArgs false
set_option linter.unusedVariables false
set_option linter.unnecessarySimpa false
set_option maxHeartbeats 8000000
set_option maxRecDepth 20000
namespace Go.Proofs.YtgdbfideeeegmaaGreatDoor
open Go.Lx Go.RowKit _root_.Go.Proofs.Tryz
theorem Jd (w:World) (v:Int) (h0:0≤v) (h6:v≤6):cH Tryz.prog 31 [vI v] w fun x N=>x=vN (2^v.toNat)∧N=[]:=by
 refine aF func31 F ntmps31 F ?_
 refine ai (aj F (ae (ai (ah F (ad (fX underlying3 underlying101 F (show IntKind.u64.wrap v=v by unfold IntKind.wrap;simp[IntKind.bits,IntKind.signed];omega)) (ad (nU (v:=v.toNat) F (by show Value.int _ v=_;rw[cR h0]) (by omega)) (aj F (ae (aK ?_)))))))))
 refine aS (vN (2^v.toNat)) Tryz.results31 F ?_
 exact⟨F,F⟩
theorem Hb (w:World) (b:Option Addr) (c:Nat) (xs:List Int) (h:Sl w b (ints xs)) (h0:0<xs.length) (hb:xs.length<9223372036854775807):cH Tryz.prog 121 [.slice b xs.length c] w fun v N=>(∃m,v=vI m∧m∈xs∧ ∀x∈xs,m≤x)∧N=[]:=by
 refine aF func121 F ntmps121 F ?_
 refine ai (aj F (ae (aM (ai (ah F (ad (cQ underlying56 F) (ad (cT F F) (ae (aP F (fun hc=>?_) (fun hc=>?_))))))))))
 ·exact absurd hc (by omega)
 have Y8: ¬xs.length<1:=by omega
 refine aE (ai (ah F (ad (dU (i:=0) underlying56 bj F F (aL h)) (ad (de underlying3 F F (aL h) gL) (aj F (ae (aM (ai (aj F (ae (aU ?_)))))))))))
 refine eF (fun(k:Nat) ρ O=> ∃(m:Int),O=[]∧1≤k∧k≤xs.length∧m∈xs.take k∧(∀x∈xs.take k,m≤x)∧dv [(0,(.slice b xs.length c)),(2,vI 0),(3,vI m),(4,vI (k:Int))] ρ) (fun k=>xs.length-k) 1 ?_ ?_
 ·refine⟨xs[0],F,bF _,h0,?_,?_,⟨F,F,F,F,trivial⟩⟩
  ·show xs[0]∈xs.take (0+1)
   rw[aH h0];simp
  ·show∀x∈xs.take (0+1),_
   rw[aH h0];simp
 rintro k ρ O ⟨m,rfl,hk1,hk,hm,mX,hH⟩
 obtain⟨gF,rfl⟩:=hH.elim
 clear hH
 refine aM (ai (ah F (ah F (ad (cQ underlying56 F) (ad (cT F F) (ae (aP F (fun hc=>?_) (fun hc=>?_))))))))
 ·have p6:k<xs.length:=by omega
  refine aE (aM (aU (a7 (ah F (ah F (ah F (ad (dU (i:=k) underlying56 bj F F (aL h)) (ad (de underlying3 F F (aL h) gL) (ad (UN F F) (aj F (ae (a7 (ah F (ad (lz F F (by omega)) (aj F (ae ?_))))))))))))))))
  refine⟨k+1,by omega,if xs[k]<m then xs[k]else m,F,by omega,by omega,?_,?_,⟨F,F,F,F,trivial⟩⟩
  ·rw[aH p6];split
   ·exact am _ (List.mem_singleton.2 F)
   ·exact aT _ hm
  ·rw[aH p6]
   intro x hx
   rcases List.mem_append.1 hx with hx|hx
   ·have:=mX x hx;split<;>omega
   ·rw[c_]at hx;subst hx;split<;>omega
 have PE: ¬k<xs.length:=by omega
 refine cK ?_
 refine ai (ah F (aj F (ae (aK ?_))))
 refine aS (vI m) Tryz.results121 F ?_
 rw[bw (by omega)]at hm mX
 exact⟨⟨m,F,hm,mX⟩,F⟩
theorem Hc (w:World) (b:Option Addr) (c:Nat) (xs:List Int) (h:Sl w b (ints xs)) (h0:0<xs.length) (hb:xs.length<9223372036854775807):cH Tryz.prog 122 [.slice b xs.length c] w fun v N=>(∃m,v=vI m∧m∈xs∧ ∀x∈xs,x≤m)∧N=[]:=by
 refine aF func122 F ntmps122 F ?_
 refine ai (aj F (ae (aM (ai (ah F (ad (cQ underlying56 F) (ad (cT F F) (ae (aP F (fun hc=>?_) (fun hc=>?_))))))))))
 ·exact absurd hc (by omega)
 have Y8: ¬xs.length<1:=by omega
 refine aE (ai (ah F (ad (dU (i:=0) underlying56 bj F F (aL h)) (ad (de underlying3 F F (aL h) gL) (aj F (ae (aM (ai (aj F (ae (aU ?_)))))))))))
 refine eF (fun(k:Nat) ρ O=> ∃(m:Int),O=[]∧1≤k∧k≤xs.length∧m∈xs.take k∧(∀x∈xs.take k,x≤m)∧dv [(0,(.slice b xs.length c)),(2,vI 0),(3,vI m),(4,vI (k:Int))] ρ) (fun k=>xs.length-k) 1 ?_ ?_
 ·refine⟨xs[0],F,bF _,h0,?_,?_,⟨F,F,F,F,trivial⟩⟩
  ·show xs[0]∈xs.take (0+1)
   rw[aH h0];simp
  ·show∀x∈xs.take (0+1),_
   rw[aH h0];simp
 rintro k ρ O ⟨m,rfl,hk1,hk,hm,mX,hH⟩
 obtain⟨gF,rfl⟩:=hH.elim
 clear hH
 refine aM (ai (ah F (ah F (ad (cQ underlying56 F) (ad (cT F F) (ae (aP F (fun hc=>?_) (fun hc=>?_))))))))
 ·have p6:k<xs.length:=by omega
  refine aE (aM (aU (a7 (ah F (ah F (ah F (ad (dU (i:=k) underlying56 bj F F (aL h)) (ad (de underlying3 F F (aL h) gL) (ad (UO F F) (aj F (ae (a7 (ah F (ad (lz F F (by omega)) (aj F (ae ?_))))))))))))))))
  refine⟨k+1,by omega,if xs[k]>m then xs[k]else m,F,by omega,by omega,?_,?_,⟨F,F,F,F,trivial⟩⟩
  ·rw[aH p6];split
   ·exact am _ (List.mem_singleton.2 F)
   ·exact aT _ hm
  ·rw[aH p6]
   intro x hx
   rcases List.mem_append.1 hx with hx|hx
   ·have:=mX x hx;split<;>omega
   ·rw[c_]at hx;subst hx;split<;>omega
 have PE: ¬k<xs.length:=by omega
 refine cK ?_
 refine ai (ah F (aj F (ae (aK ?_))))
 refine aS (vI m) Tryz.results122 F ?_
 rw[bw (by omega)]at hm mX
 exact⟨⟨m,F,hm,mX⟩,F⟩
theorem jf (w:World) (d:cU) (nb fb:Option Addr) (nc fc:Nat) (vs:List Value) (h:jt w d nb vs fb) (hb:d.next.length<9223372036854775807) (vY: ∀r∈d.next,r.length<9223372036854775807) (yw:d.aY.length<9223372036854775807):
  cH Tryz.prog 83 [.agg (fw d nb nc fb fc).toArray] w fun v N=>v=vI (dD d:Int)∧N=[]:=by
 refine aF func83 F ntmps83 F ?_
 have Nk:=h.rows.1
 let gC:Value:=(.slice nb d.next.length nc)
 refine ai (ao F (dG (cs:=[(vI d.vars),(vI d.start),gC,(.slice fb d.aY.length fc)]) F F (fun b1=>?_)))
 refine aj F (ae (ai (ad (a_ underlying25 F fz F F) (ad (bi 0 underlying22 F F F F) (ad (cQ underlying22 F) (aj F (ae (aM (aU (ai (ad (a_ underlying25 F bj F F) (ad (bi 0 underlying3 F F F F) ?_))))))))))))
 by_cases Nl:d.vars<0
 ·refine ad (aB (cT F F) (ay Nl)) ?_
  refine ah F (aV F F (aV F F (aV F F (ad (cA F F) (aj F (ae ?_))))))
  refine bO F ?_
  refine ai (aj F (ae (aK (aA ?_))))
  refine aS (vI 7) Tryz.results83 F ?_
  refine⟨[],cj (cq _),ax (fun z:Nat=>Value.int .i64 (z:Int)) (show 7=dD d from Eq.symm ?_),F⟩
  unfold dD
  rw[aO (by omega)]
 refine ad (aB (cT F F) (ak Nl)) (ah F (aG F F (a_ underlying25 F bj F F) (aG F F (bi 0 underlying3 F F F F) ?_)))
 by_cases Re:6<d.vars
 ·refine aG F F (aB (iy F F) (ay Re)) ?_
  refine ad (cg F F) (aj F (ae ?_))
  refine bO F ?_
  refine ai (aj F (ae (aK (aA ?_))))
  refine aS (vI 7) Tryz.results83 F ?_
  refine⟨[],cj (cq _),ax (fun z:Nat=>Value.int .i64 (z:Int)) (show 7=dD d from Eq.symm ?_),F⟩
  unfold dD
  rw[aO (by omega)]
 refine aG F F (aB (iy F F) (ak Re)) (ad (cg F F) (aj F (ae (a6 F (ai (ah F (ad (bJ F F) (aj F (ae (aP F (fun hc=>?_) (fun hc=>?_)))))))))))
 ·have PF:d.next.length=0:=by omega
  refine ai (aj F (ae (aK (aA ?_))))
  refine aS (vI 3) Tryz.results83 F ?_
  refine⟨[],cj (cq _),ax (fun z:Nat=>Value.int .i64 (z:Int)) (show 3=dD d from Eq.symm ?_),F⟩
  unfold dD
  rw[az (by simp;omega),aO PF]
 have yW: ¬d.next.length=0:=by omega
 refine ai (ah F (ad (iy F F) (aj F (ae (aP F (fun hc=>?_) (fun hc=>?_))))))
 ·have uY:d.next.length>4096:=by omega
  refine ai (aj F (ae (aK (aA ?_))))
  refine aS (vI 4) Tryz.results83 F ?_
  refine⟨[],cj (cq _),ax (fun z:Nat=>Value.int .i64 (z:Int)) (show 4=dD d from Eq.symm ?_),F⟩
  unfold dD
  rw[az (by simp;omega),az yW,aO uY]
 have wK: ¬d.next.length>4096:=by omega
 refine ai (ad (a_ underlying25 F dA F F) (ad (bi 0 underlying23 F F F F) (ad (cQ underlying23 F) (ah F (ad (dQ F F) (aj F (ae (aP F (fun hc=>?_) (fun hc=>?_)))))))))
 ·have lA:d.aY.length≠d.next.length:=by omega
  refine ai (aj F (ae (aK (aA ?_))))
  refine aS (vI 2) Tryz.results83 F ?_
  refine⟨[],cj (cq _),ax (fun z:Nat=>Value.int .i64 (z:Int)) (show 2=dD d from Eq.symm ?_),F⟩
  unfold dD
  rw[az (by simp;omega),az yW,az wK,aO lA]
 have BH: ¬d.aY.length≠d.next.length:=by omega
 refine ai (ad (a_ underlying25 F bj F F) (ad (bi 0 underlying3 F F F F) ?_))
 by_cases Ar:d.start<0
 ·refine ad (aB (cT F F) (ay Ar)) ?_
  refine ah F (aV F F (aV F F (aV F F (aV F F (ad (cA F F) (aj F (ae ?_)))))))
  refine bO F ?_
  refine ai (aj F (ae (aK (aA ?_))))
  refine aS (vI 8) Tryz.results83 F ?_
  refine⟨[],cj (cq _),ax (fun z:Nat=>Value.int .i64 (z:Int)) (show 8=dD d from Eq.symm ?_),F⟩
  unfold dD
  rw[az (by simp;omega),az yW,az wK,az (by simpa using BH),aO (by omega)]
 refine ad (aB (cT F F) (ak Ar)) (ah F (aG F F (a_ underlying25 F bj F F) (aG F F (bi 0 underlying3 F F F F) (aG F F (aN F) ?_))))
 by_cases PG:(d.next.length:Int)≤d.start
 ·refine aG F F (aB (lB F F) (ay PG)) ?_
  refine ad (cg F F) (aj F (ae ?_))
  refine bO F ?_
  refine ai (aj F (ae (aK (aA ?_))))
  refine aS (vI 8) Tryz.results83 F ?_
  refine⟨[],cj (cq _),ax (fun z:Nat=>Value.int .i64 (z:Int)) (show 8=dD d from Eq.symm ?_),F⟩
  unfold dD
  rw[az (by simp;omega),az yW,az wK,az (by simpa using BH),aO (by omega)]
 refine aG F F (aB (lB F F) (ak PG)) (ad (cg F F) (aj F (ae (a6 F (aE (aM (ai (ad (a_ underlying25 F fz F F) (ad (bi 0 underlying22 F F F F) (ad (cQ underlying22 F) (ah F (ae (aU ?_)))))))))))))
 let eP:Lx.Item:=oI b1 25 [(vI d.vars),(vI d.start),(.slice nb d.next.length nc),(.slice fb d.aY.length fc)]
 refine eF (fun(k:Nat) ρ O=>O=[eP]∧k≤d.next.length∧sS (2^d.vars.toNat) d.next.length (d.next.drop k)=dD d∧dv [(0,(.agg #[(vI d.vars),(vI d.start),gC,(.slice fb d.aY.length fc)])),(1,(.pointer (aD b1))),(3,vI (d.next.length:Int)),(9,.bool false),(18,.bool (decide ((d.next.length:Int)=0))),(21,.bool (decide ((d.next.length:Int)>4096))),(24,.bool (decide ((d.aY.length:Int)≠(d.next.length:Int)))),(30,.bool false),(41,gC),(42,vI (d.next.length:Int)),(43,vI (k:Int))] ρ) (fun k=>d.next.length-k) 0 ?_ ?_
 ·refine⟨F,bn _,?_,(.of F)⟩
  unfold dD
  rw[az (by simp;omega),az yW,az wK,az (by simpa using BH),az (by omega)];rfl
 rintro k ρ O ⟨rfl,hk,hr,hH⟩
 obtain⟨gF,rfl⟩:=hH.elim
 clear hH
 refine ai (ad (cT F F) (ae (aM (aP F (fun hc=>?_) (fun hc=>?_)))))
 ·have l7:k<d.next.length:=by omega
  obtain⟨Yr,Ys,g1,s1⟩:=h.rows.get l7
  have IK:=vY _ (aQ l7)
  refine aE (aM (aU (ai (ad (dU (i:=k) underlying22 cV F F (aL h.outer)) (ad (de underlying56 F F (aL h.outer) g1) (aj F (ae (aM (ai (ah F (ad (cQ underlying56 F) (ad (a_ underlying25 F bj F F) (ad (bi 0 underlying3 F F F F) (ad (nU (v:=d.vars.toNat) F (by show Value.int _ d.vars=_;rw[cR (by omega)]) (by omega)) (ad (dQ F F) (ae (aP F (fun hc=>?_) (fun hc=>?_))))))))))))))))))
  ·have PH:d.next[k].length≠2^d.vars.toNat:=by omega
   refine ai (aj F (ae (aK (aA ?_))))
   refine aS (vI 2) Tryz.results83 F ?_
   refine⟨[],cj (cq _),ax (fun z:Nat=>Value.int .i64 (z:Int)) (show 2=dD d from Eq.symm ?_),F⟩
   rw[←hr,sT l7,aO PH]
  have Fs: ¬d.next[k].length≠2^d.vars.toNat:=by omega
  have PI:0<d.next[k].length:=by
   have:=Nat.pow_pos (n:=d.vars.toNat) (show 0<2 by omega)
   omega
  refine aE (ai (ah F ?_))
  have Je:=fun(w1:World) (hI:Inv w [eP] w1)=>Hb w1 Yr Ys d.next[k] (hI.sl s1) PI IK
  refine ao F (bl Rf (aX Je) F ?_)
  clear Je
  rintro v O' ⟨N,rfl,⟨m1,rfl,hm1,UP⟩,rfl⟩
  by_cases PC:m1<0
  ·refine ad (aB (cT F F) (ay PC)) ?_
   refine ah F (aV F F (aV F F (aV F F (aV F F (ad (cA F F) (ae ?_))))))
   refine bO F ?_
   refine ai (aj F (ae (aK (aA ?_))))
   refine aS (vI 8) Tryz.results83 F ?_
   refine⟨[],cj (cq _),ax (fun z:Nat=>Value.int .i64 (z:Int)) (show 8=dD d from Eq.symm ?_),F⟩
   rw[←hr,sT l7,az (by simpa using Fs),az ?_]
   intro hh
   simp only[uZ,fC,aJ,cD]at hh
   have:=hh _ hm1;omega
  refine ad (aB (cT F F) (ak PC)) (ah F (aG F F (aN F) ?_))
  have Jf:=fun(w1:World) (hI:Inv w [eP] w1)=>Hc w1 Yr Ys d.next[k] (hI.sl s1) PI IK
  refine iD F F F (bl Rg (aX Jf) F ?_)
  clear Jf
  rintro v O' ⟨N,rfl,⟨m2,rfl,BI,UQ⟩,rfl⟩
  refine aG F F (aN F) ?_
  by_cases he1:(d.next.length:Int)≤m2
  ·refine aG F F (aB (lB F F) (ay he1)) ?_
   refine ad (cg F F) (ae ?_)
   refine bO F ?_
   refine ai (aj F (ae (aK (aA ?_))))
   refine aS (vI 8) Tryz.results83 F ?_
   refine⟨[],cj (cq _),ax (fun z:Nat=>Value.int .i64 (z:Int)) (show 8=dD d from Eq.symm ?_),F⟩
   rw[←hr,sT l7,az (by simpa using Fs),az ?_]
   intro hh
   simp only[uZ,fC,aJ,cD]at hh
   have:=hh _ BI;omega
  refine aG F F (aB (lB F F) (ak he1)) (ad (cg F F) (ae (a6 F (aE (a7 (ad (lz F F (by omega)) (ah F (ae ?_))))))))
  refine⟨k+1,by omega,F,by omega,?_,(.of F)⟩
  rw[←hr,sT l7,az (by simpa using Fs),aO ?_]
  simp only[uZ,fC,aJ,cD]
  intro x hx
  have:=UP x hx;have:=UQ x hx;omega
 have PJ: ¬k<d.next.length:=by omega
 refine cK ?_
 refine ai (aj F (ae (aK (aA ?_))))
 refine aS (vI 0) Tryz.results83 F ?_
 refine⟨[],cj (cq _),ax (fun z:Nat=>Value.int .i64 (z:Int)) (show 0=dD d from Eq.symm ?_),F⟩
 rw[←hr,Hd (by omega)]
end Go.Proofs.YtgdbfideeeegmaaGreatDoor

namespace Go.Proofs
open Go.Shelf
def Tryz.DF:Go.Shelf.Ren:=⟨fun|283=>214|n=>n,fun|3=>3|9=>9|4=>4|n=>n,fun|n=>n⟩
theorem Tryz.Px:Go.Proofs.Lays.n283 Tryz.prog Tryz.DF:= {
 mixed:=by kernel_rfl
 f283:=Tryz.func214.trans (ax some (by kernel_rfl))
 t3:=Tryz.underlying3
 a3:=Tryz.isAgg3
 z3:=Tryz.sizeOf3
 v3:=Tryz.zeroValue3
 t4:=Tryz.underlying4
 a4:=Tryz.isAgg4
 z4:=Tryz.sizeOf4
 v4:=Tryz.zeroValue4
 t9:=Tryz.underlying9
 a9:=Tryz.isAgg9
 z9:=Tryz.sizeOf9
 v9:=Tryz.zeroValue9}
open Go.RowKit Go.Sort Go.Lib in
theorem Tryz.internal_strconv_small (i:Nat) (h:i<100) (w:World):
  Calls Tryz.prog 214 #[.int .i64 i] w fun e w'=>e=.returned (.string ⟨(Lib.decDigits i).toArray⟩)∧w'=w:=Any.internal_strconv_small Tryz.Px i h w
def Tryz.Br:Go.Shelf.Ren:=⟨fun|284=>215|129=>209|317=>241|318=>242|n=>n,fun|53=>256|3=>3|212=>282|0=>0|4=>4|46=>101|5=>5|9=>9|n=>n,fun|17=>0|n=>n⟩
theorem Tryz.ML:Go.Proofs.LaysM.n284 Tryz.prog Tryz.Br:= {
 mixed:=by kernel_rfl
 f129:=Tryz.func209.trans (ax some (by kernel_rfl))
 f284:=Tryz.func215.trans (ax some (by kernel_rfl))
 f317:=Tryz.func241.trans (ax some (by kernel_rfl))
 f318:=Tryz.func242.trans (ax some (by kernel_rfl))
 t0:=Tryz.underlying0
 a0:=Tryz.isAgg0
 z0:=Tryz.sizeOf0
 v0:=Tryz.zeroValue0
 t3:=Tryz.underlying3
 a3:=Tryz.isAgg3
 z3:=Tryz.sizeOf3
 v3:=Tryz.zeroValue3
 t4:=Tryz.underlying4
 a4:=Tryz.isAgg4
 z4:=Tryz.sizeOf4
 v4:=Tryz.zeroValue4
 t5:=Tryz.underlying5
 a5:=Tryz.isAgg5
 z5:=Tryz.sizeOf5
 v5:=Tryz.zeroValue5
 t9:=Tryz.underlying9
 a9:=Tryz.isAgg9
 z9:=Tryz.sizeOf9
 v9:=Tryz.zeroValue9
 t46:=Tryz.underlying101
 a46:=Tryz.isAgg101
 z46:=Tryz.sizeOf101
 v46:=Tryz.zeroValue101
 t53:=Tryz.underlying256
 a53:=Tryz.isAgg256
 z53:=Tryz.sizeOf256
 v53:=Tryz.zeroValue256
 t212:=Tryz.underlying282
 a212:=Tryz.isAgg282
 z212:=Tryz.sizeOf282
 v212:=Tryz.zeroValue282
 g17:=by kernel_rfl
 i0:=by kernel_rfl
 i3:=by kernel_rfl
 i4:=by kernel_rfl
 i5:=by kernel_rfl
 i9:=by kernel_rfl
 i46:=by kernel_rfl
 i53:=by kernel_rfl
 i212:=by kernel_rfl
 m17:=by kernel_rfl}
open Go.RowKit Go.Sort Go.Lib in
theorem Tryz.internal_strconv_numDigits (u:Nat) (h1:1≤u) (h2:u<18446744073709551616) (w:World) (Ud:Lib.TabIs Tryz.prog w "internal/strconv.uint64pow10" .u64 Lib.pow10Tab):
  Calls Tryz.prog 215 #[.int .u64 u] w fun e w'=>e=.returned (.int .i64 (Lib.nDigits u))∧w'=w:=Any.internal_strconv_numDigits Tryz.ML u h1 h2 w Ud
def Tryz.DG:Go.Shelf.Ren:=⟨fun|285=>216|n=>n,fun|37=>43|53=>256|3=>3|4=>4|51=>254|9=>9|5=>5|0=>0|n=>n,fun|n=>n⟩
theorem Tryz.Py:Go.Proofs.Lays.n285 Tryz.prog Tryz.DG:= {
 mixed:=by kernel_rfl
 f285:=Tryz.func216.trans (ax some (by kernel_rfl))
 t0:=Tryz.underlying0
 a0:=Tryz.isAgg0
 z0:=Tryz.sizeOf0
 v0:=Tryz.zeroValue0
 t3:=Tryz.underlying3
 a3:=Tryz.isAgg3
 z3:=Tryz.sizeOf3
 v3:=Tryz.zeroValue3
 t4:=Tryz.underlying4
 a4:=Tryz.isAgg4
 z4:=Tryz.sizeOf4
 v4:=Tryz.zeroValue4
 t5:=Tryz.underlying5
 a5:=Tryz.isAgg5
 z5:=Tryz.sizeOf5
 v5:=Tryz.zeroValue5
 t9:=Tryz.underlying9
 a9:=Tryz.isAgg9
 z9:=Tryz.sizeOf9
 v9:=Tryz.zeroValue9
 t37:=Tryz.underlying43
 a37:=Tryz.isAgg43
 z37:=Tryz.sizeOf43
 v37:=Tryz.zeroValue43
 t51:=Tryz.underlying254
 a51:=Tryz.isAgg254
 z51:=Tryz.sizeOf254
 v51:=Tryz.zeroValue254
 t53:=Tryz.underlying256
 a53:=Tryz.isAgg256
 z53:=Tryz.sizeOf256
 v53:=Tryz.zeroValue256}
open Go.RowKit Go.Sort Go.Lib in
theorem Tryz.internal_strconv_formatBase10 (lD off cap:Nat) (u:Nat) (d:Array UInt8) (w:World) (hH:Holds (fun(b:UInt8)=>Value.int .u8 (b.toNat:Int)) w lD off d) (hu:u<10^d.size) (abp:u<18446744073709551616) (sR:d.size<4611686018427387904):
  Calls Tryz.prog 216 #[.slice (some ⟨lD,off,none⟩) d.size cap,.int .u64 u] w fun e w'=>
   e=.returned (.tuple #[])∧ ∃(n v':Nat) (dk:Array UInt8),w'=(putRow (fun(b:UInt8)=>Value.int .u8 (b.toNat:Int)) w lD off dk).drewN n∧FmtInv d.size u 0 v' dk:=Any.internal_strconv_formatBase10 Tryz.Py lD off cap u d w hH hu abp sR
def Tryz.Bs:Go.Shelf.Ren:=⟨fun|171=>85|243=>123|246=>169|283=>214|284=>215|285=>216|286=>217|129=>209|317=>241|318=>242|319=>243|320=>244|337=>258|338=>259|n=>n,fun|3=>3|9=>9|2=>2|4=>4|171=>260|0=>0|53=>256|37=>43|5=>5|173=>262|212=>282|51=>254|20=>20|213=>283|46=>101|232=>297|233=>298|n=>n,fun|17=>0|18=>1|19=>2|n=>n⟩
theorem Tryz.MM:Go.Proofs.LaysM.n171 Tryz.prog Tryz.Bs:= {
 mixed:=by kernel_rfl
 f129:=Tryz.func209.trans (ax some (by kernel_rfl))
 f171:=Tryz.func85.trans (ax some (by kernel_rfl))
 f243:=Tryz.func123.trans (ax some (by kernel_rfl))
 f246:=Tryz.func169.trans (ax some (by kernel_rfl))
 f283:=Tryz.func214.trans (ax some (by kernel_rfl))
 f284:=Tryz.func215.trans (ax some (by kernel_rfl))
 f285:=Tryz.func216.trans (ax some (by kernel_rfl))
 f286:=Tryz.func217.trans (ax some (by kernel_rfl))
 f317:=Tryz.func241.trans (ax some (by kernel_rfl))
 f318:=Tryz.func242.trans (ax some (by kernel_rfl))
 f319:=Tryz.func243.trans (ax some (by kernel_rfl))
 f320:=Tryz.func244.trans (ax some (by kernel_rfl))
 f337:=Tryz.func258.trans (ax some (by kernel_rfl))
 f338:=Tryz.func259.trans (ax some (by kernel_rfl))
 t0:=Tryz.underlying0
 a0:=Tryz.isAgg0
 z0:=Tryz.sizeOf0
 v0:=Tryz.zeroValue0
 t2:=Tryz.underlying2
 a2:=Tryz.isAgg2
 z2:=Tryz.sizeOf2
 v2:=Tryz.zeroValue2
 t3:=Tryz.underlying3
 a3:=Tryz.isAgg3
 z3:=Tryz.sizeOf3
 v3:=Tryz.zeroValue3
 t4:=Tryz.underlying4
 a4:=Tryz.isAgg4
 z4:=Tryz.sizeOf4
 v4:=Tryz.zeroValue4
 t5:=Tryz.underlying5
 a5:=Tryz.isAgg5
 z5:=Tryz.sizeOf5
 v5:=Tryz.zeroValue5
 t9:=Tryz.underlying9
 a9:=Tryz.isAgg9
 z9:=Tryz.sizeOf9
 v9:=Tryz.zeroValue9
 t20:=Tryz.underlying20
 a20:=Tryz.isAgg20
 z20:=Tryz.sizeOf20
 v20:=Tryz.zeroValue20
 t37:=Tryz.underlying43
 a37:=Tryz.isAgg43
 z37:=Tryz.sizeOf43
 v37:=Tryz.zeroValue43
 t46:=Tryz.underlying101
 a46:=Tryz.isAgg101
 z46:=Tryz.sizeOf101
 v46:=Tryz.zeroValue101
 t51:=Tryz.underlying254
 a51:=Tryz.isAgg254
 z51:=Tryz.sizeOf254
 v51:=Tryz.zeroValue254
 t53:=Tryz.underlying256
 a53:=Tryz.isAgg256
 z53:=Tryz.sizeOf256
 v53:=Tryz.zeroValue256
 t171:=Tryz.underlying260
 a171:=Tryz.isAgg260
 z171:=Tryz.sizeOf260
 v171:=Tryz.zeroValue260
 t173:=Tryz.underlying262
 a173:=Tryz.isAgg262
 z173:=Tryz.sizeOf262
 v173:=Tryz.zeroValue262
 t212:=Tryz.underlying282
 a212:=Tryz.isAgg282
 z212:=Tryz.sizeOf282
 v212:=Tryz.zeroValue282
 t213:=Tryz.underlying283
 a213:=Tryz.isAgg283
 z213:=Tryz.sizeOf283
 t232:=Tryz.underlying297
 a232:=Tryz.isAgg297
 z232:=Tryz.sizeOf297
 v232:=Tryz.zeroValue297
 t233:=Tryz.underlying298
 a233:=Tryz.isAgg298
 z233:=Tryz.sizeOf298
 v233:=Tryz.zeroValue298
 g17:=by kernel_rfl
 g18:=by kernel_rfl
 g19:=by kernel_rfl
 i0:=by kernel_rfl
 i2:=by kernel_rfl
 i3:=by kernel_rfl
 i4:=by kernel_rfl
 i5:=by kernel_rfl
 i9:=by kernel_rfl
 i20:=by kernel_rfl
 i37:=by kernel_rfl
 i46:=by kernel_rfl
 i51:=by kernel_rfl
 i53:=by kernel_rfl
 i171:=by kernel_rfl
 i173:=by kernel_rfl
 i212:=by kernel_rfl
 i232:=by kernel_rfl
 i233:=by kernel_rfl
 m17:=by kernel_rfl
 m18:=by kernel_rfl
 m19:=by kernel_rfl}
open Go.RowKit Go.Sort Go.Lib in
theorem Tryz.strconv_Itoa (n:Int) (h0: -9223372036854775808≤n) (h1:n≤9223372036854775807) (w:World) (Ud:Lib.TabIs Tryz.prog w "internal/strconv.uint64pow10" .u64 Lib.pow10Tab):
  Calls Tryz.prog 85 #[.int .i64 n] w fun e w'=>e=.returned (.string ⟨(Lib.itoa n).toArray⟩)∧ ∃k os,w'=grow (w.drewN k) os:=Any.strconv_Itoa Tryz.MM n h0 h1 w Ud
end Go.Proofs

namespace Go.Proofs.YtgdbfideeeegmaaGreatDoor
open Go.Lx Go.RowKit _root_.Go.Proofs.Tryz
theorem Ui (w:World) (i:Nat) (h:i<100):cH Tryz.prog 214 [vI (i:Int)] w fun v N=>v=str (Lib.decDigits i)∧N=[]:=fun w1 M hI=>
 (Go.Proofs.Tryz.internal_strconv_small i h w1).mono (by rintro e w' ⟨rfl,rfl⟩;exact⟨_,[],F,hI,F,F⟩)
theorem ndF (w:World) [t:dE Tryz.prog w] (n:Nat) (h1:1≤n) (hn:n<1000000000000):cH Tryz.prog 215 [.int .u64 (n:Int)] w fun v N=>v=vI (Lib.nDigits n:Int)∧N=[]:=fun w1 M hI=>
 (Go.Proofs.Tryz.internal_strconv_numDigits n h1 (by omega) w1 (dE.is (hI.tab (P:=Tryz.prog)))).mono (by rintro e w' ⟨rfl,rfl⟩;exact⟨_,[],F,hI,F,F⟩)
theorem MO (base:World) [dE Tryz.prog base] (b:Option Addr) (c c' m n:Nat) (l:List UInt8) (hl:l.length=m) (hn:n<1000000000000) (Vf:100≤n) (hm:m≤1000000):
  bW Tryz.prog base 231 [.slice b m c,.int .u64 (n:Int),vI 10] [aq b c 5 1 (di l)] (fun v O'=> ∃b' c',v=.slice b' (m+(Lib.decDigits n).length) c'∧ ∃k cs,O'=[dF k (.cells cs 260 (0,0)),aq b' c' 5 1 (di (l++Lib.decDigits n))]):=by
 have h20:Lib.nDigits n≤20:=by have:=Lib.numDigits_eq n (by omega) (by omega);split at this<;>omega
 have YK:1≤Lib.nDigits n:=by rw[Lib.nDigits_big (by omega)];omega
 refine aF func231 F ntmps231 F ?_
 refine ai (aj F (ae (aM (ai (ah F (ad (bJ F F) (ae ?_)))))))
 refine bO F ?_
 refine aM (ai (ah F (ad (cT F F) (ae (a6 (ax Value.bool (ak (show¬(n:Int)<100 by omega))) (aE (ai (ao F (bs Tu F (fun bA=>?_))))))))))
 refine ae (ai (ah F (ao F (bl TF (aX (fun w1 hI=>by haveI:=hI.tab (P:=Tryz.prog);exact ndF w1 n (by omega) hn)) F ?_))))
 rintro v O' ⟨N,rfl,rfl,rfl⟩
 refine aj F (ae (ai (ah F (ad (BW underlying260 du F F (by omega) YK) (ah F ?_)))))
 have hk:=(NA (base:=base) (b:=bA) (T:=260) (n:=n) (fun j hj=>Lib.zeros24_at j hj) (by omega) hn Go.Proofs.Tryz.internal_strconv_formatBase10).under (O:=[dF bA (.cells Lib.zeros24 260 (0,0)),aq b c 5 1 (di l)]) (B:=[aq b c 5 1 (di l)]) (cj (aZ _))
 refine ao F (bl TH hk F ?_)
 clear hk
 rintro v O' ⟨O1,rfl,rfl,cs,rfl,wM⟩
 refine ae (ai (ah F (ah F (ad (BW underlying260 du F F (by omega) YK) (ao F (Hw (new:=di (Lib.decDigits n)) 0 1 underlying43 underlying43 du F F F F (by simp[di,hl]) (by simp[di,Lib.decDigits_length]) F wM (wY _) (by omega) (by decide) (by decide) (fun b2 c2=>?_)))))))
 refine aj F (ae (aK ?_))
 refine aS (.slice b2 (m+Lib.nDigits n) c2) Tryz.results231 F ?_
 refine⟨b2,c2,by rw[Lib.decDigits_length],bA,cs,?_⟩
 rw[show di (l++Lib.decDigits n)=di l++di (Lib.decDigits n)from bm];rfl
theorem Ct (base:World) (b:Option Addr) (c c' m n:Nat) (l:List UInt8) (hl:l.length=m) (hn:n<100) (hm:m≤1000000):
  bW Tryz.prog base 231 [.slice b m c,.int .u64 (n:Int),vI 10] [aq b c 5 1 (di l)] (fun v O'=> ∃b' c',v=.slice b' (m+(Lib.decDigits n).length) c'∧O'=[aq b' c' 5 1 (di (l++Lib.decDigits n))]):=by
 refine aF func231 F ntmps231 F ?_
 refine ai (aj F (ae (aM (ai (ah F (ad (bJ F F) (ae ?_)))))))
 refine bO F ?_
 refine aM (ai (ah F (ad (cT F F) (ae ?_))))
 refine bO (ax Value.bool (ay (show(n:Int)<100 by omega))) ?_
 refine ai (ah F (ah F (ad (fX underlying256 underlying3 F (show IntKind.i64.wrap (n:Int)=(n:Int)from gS (by omega))) ?_)))
 have qA:=fun(w1:World) (hI:Inv base [aq b c 5 1 (di l)] w1)=>Ui w1 n hn
 refine ao F (bl TE (aX qA) F ?_)
 clear qA
 rintro v O' ⟨N,rfl,rfl,rfl⟩
 refine ao F (zk (s:=Lib.decDigits n) 0 underlying43 underlying9 du F F F F (by simp[hl]) F (by have:=s_ 1 n (by omega);omega) (by decide) (by decide) (fun b2 c2=>?_))
 refine aj F (ae (aK ?_))
 refine aS (.slice b2 (m+(Lib.decDigits n).length) c2) Tryz.results231 F ?_
 exact⟨b2,c2,F,by rw[show di (l++Lib.decDigits n)=di l++di (Lib.decDigits n)from bm];rfl⟩
theorem MP (base:World) [dE Tryz.prog base] (b:Option Addr) (c c' m n:Nat) (l:List UInt8) (hl:l.length=m) (hn:n<1000000000000) (hm:m≤1000000):
  bW Tryz.prog base 231 [.slice b m c,.int .u64 (n:Int),vI 10] [aq b c 5 1 (di l)] (fun v O'=> ∃b' c',v=.slice b' (m+(Lib.decDigits n).length) c'∧O'=[aq b' c' 5 1 (di (l++Lib.decDigits n))]):=by
 by_cases h:n<100
 ·exact Ct base b c c' m n l hl h hm
 ·exact(MO base b c c' m n l hl hn (by omega) hm).drop fun v O' ⟨b',c',h1,k,cs,h2⟩=>⟨_,h2▸cj (List.sublist_cons_self _ _),b',c',h1,F⟩
theorem Pz (base:World) [dE Tryz.prog base] (b:Option Addr) (c c' m n:Nat) (l:List UInt8) (hl:l.length=m) (hn:n<1000000000000) (hm:m≤1000000):
  bW Tryz.prog base 210 [.slice b m c,vI (n:Int),vI 10] [aq b c 5 1 (di l)] (fun v O'=> ∃b' c',v=.slice b' (m+(Lib.decDigits n).length) c'∧O'=[aq b' c' 5 1 (di (l++Lib.decDigits n))]):=by
 refine aF func210 F ntmps210 F ?_
 refine ai (aj F (ae (ai (ah F (ad (fX underlying2 underlying256 F (show IntKind.u64.wrap (n:Int)=(n:Int) by unfold IntKind.wrap;simp[IntKind.bits,IntKind.signed];omega)) (aj F (ae (aM (ai (ah F (ad (cT F F) (ae (a6 (ax Value.bool (ak (show¬(n:Int)<0 by omega))) ?_)))))))))))))
 refine aE (ai (ah F (ah F (ah F ?_))))
 have nk:=MP base b c c' m n l hl hn hm
 refine ao F (bl Kc nk F ?_)
 clear nk
 rintro v O' ⟨b2,c2,rfl,rfl⟩
 refine aj F (ae (aK ?_))
 refine aS (.slice b2 (m+(Lib.decDigits n).length) c2) Tryz.results210 F ?_
 exact⟨b2,c2,F,F⟩
theorem Sc (base:World) [dE Tryz.prog base] (b:Option Addr) (c c' m n:Nat) (l:List UInt8) (hl:l.length=m) (hn:n<1000000000000) (hm:m≤1000000):
  bW Tryz.prog base 160 [.slice b m c,vI (n:Int),vI 10] [aq b c 5 1 (di l)] (fun v O'=> ∃b' c',v=.slice b' (m+(Lib.decDigits n).length) c'∧O'=[aq b' c' 5 1 (di (l++Lib.decDigits n))]):=by
 refine aF func160 F ntmps160 F ?_
 refine ai (aj F (ae (ai (ah F (ah F (ah F ?_))))))
 have qx:=Pz base b c c' m n l hl hn hm
 refine ao F (bl Kd qx F ?_)
 clear qx
 rintro v O' ⟨b2,c2,rfl,rfl⟩
 refine aj F (ae (aK ?_))
 refine aS (.slice b2 (m+(Lib.decDigits n).length) c2) Tryz.results160 F ?_
 exact⟨b2,c2,F,F⟩
theorem Mz (w:World) [dE Tryz.prog w] (n:Nat) (hn:n<1000000000000):cH Tryz.prog 85 [vI (n:Int)] w fun v N=>v=str (Lib.decDigits n)∧N=[]:=fun w1 M hI=>
 (Go.Proofs.Tryz.strconv_Itoa n (by omega) (by omega) w1 (dE.is (hI.tab (P:=Tryz.prog)))).mono (by rintro e w' ⟨rfl,k,os,rfl⟩;exact⟨_,[],F,hI.grow k os,by rw[Lib.itoa_nonneg];rfl,F⟩)
theorem et {w w1:World} {O:List Lx.Item} [dE Tryz.prog w] (h:Inv w O w1):dE Tryz.prog w1:=Inv.tab (P:=Tryz.prog) h
theorem aW {w:World} {O:List Lx.Item} {f:FuncId} {args:List Value} {R:Value→List Lx.Item→Prop} [dE Tryz.prog w] (h: ∀(w1:World) [dE Tryz.prog w1],cH Tryz.prog f args w1 R):bW Tryz.prog w f args O (fun v O2=> ∃N,O2=N++O∧R v N):=aX fun w1 hI=>haveI:=et hI;h w1
abbrev uT2:= @underlying2
abbrev dP:= @underlying3
abbrev AG:= @underlying4
abbrev fA:= @underlying5
abbrev ve:= @underlying9
abbrev e_:= @underlying22
abbrev eB:= @underlying23
abbrev cZ:= @underlying25
abbrev oD:= @underlying27
abbrev cX:= @underlying32
abbrev lh:= @underlying43
abbrev cL:= @underlying56
abbrev IG:= @underlying58
abbrev ur:= @underlying67
abbrev fZ:= @underlying69
abbrev bU:= @underlying72
abbrev xk:= @underlying73
abbrev l9:= @underlying75
abbrev vQ:= @underlying79
abbrev lx:= @underlying81
abbrev vS:= @underlying96
abbrev rB:= @underlying97
abbrev P4:= @underlying101
abbrev fB:= @underlying112
abbrev gA:= @underlying114
abbrev iz:= @underlying118
abbrev nP:= @underlying120
abbrev mb:= @underlying122
abbrev ld:= @underlying129
abbrev Lj:= @underlying140
abbrev f_:= @underlying149
abbrev td:= @underlying153
abbrev We:= @underlying159
abbrev iJ:= @underlying160
abbrev FV:= @underlying163
abbrev C0:= @underlying166
abbrev jC:= @underlying167
abbrev lH:= @underlying169
abbrev ke:= @underlying173
abbrev XO:= @underlying180
abbrev Q_:= @underlying197
abbrev nO:= @underlying208
abbrev Qm:= @underlying209
abbrev rP:= @underlying227
abbrev ny:= @underlying234
abbrev ml:= @underlying235
abbrev tV:= @underlying236
abbrev oR:= @underlying238
abbrev Wc:= @underlying244
abbrev V9:= @underlying256
end Go.Proofs.YtgdbfideeeegmaaGreatDoor

namespace Go.Proofs.YtgdbfideeeegmaaGreatDoor
open Go.Lx Go.RowKit _root_.Go.Proofs.Tryz
theorem O_ (base:World) [dE Tryz.prog base] (bx m:Nat) (ks:List (List UInt8)) (key:List UInt8) (hk:key∈ks) (hb:ks.length<1000000):
  bW Tryz.prog base 168 [str key,.pointer (aD bx)] [dF bx (.cells #[.map (some m)] 160 (0,0)),dz str (fun n:Nat=>Value.int .i64 (n:Int)) m ks.zipIdx] (fun v O'=>v=vN (ix key (add ks key))∧O'=[dF bx (.cells #[.map (some m)] 160 (0,0)),dz str (fun n:Nat=>Value.int .i64 (n:Int)) m (add ks key).zipIdx]):=by
 refine aF func168 F ntmps168 F ?_
 refine ai (aj F (ae (ai (ad (bi 0 iJ F F F F) (ah F (ad (bK (jK (a:=key) iJ bj (gh.string ve) F F (mG 1 F)) (v':=(.tuple #[vN (ix key ks),.bool true])) (by rw[li];simp[hk])) (ah F (ad (bE (vs:=_) F F) (ad (bE (vs:=_) F F) (aj F (aj F (ae (aM (ai (ah F (ad (jh F) (ae ?_)))))))))))))))))
 refine a6 F (aE (ai (ah F (aj F (ae (aK ?_))))))
 refine aS (vN (ix key ks)) Tryz.results168 F ?_
 have ha:add ks key=ks:=aO hk
 rw[ha];exact⟨F,F⟩
theorem L0 (base:World) [dE Tryz.prog base] (bx m:Nat) (ks:List (List UInt8)) (key:List UInt8) (hk:key∉ks) (hb:ks.length<1000000):
  bW Tryz.prog base 168 [str key,.pointer (aD bx)] [dF bx (.cells #[.map (some m)] 160 (0,0)),dz str (fun n:Nat=>Value.int .i64 (n:Int)) m ks.zipIdx] (fun v O'=>v=vN (ix key (add ks key))∧O'=[dF bx (.cells #[.map (some m)] 160 (0,0)),dz str (fun n:Nat=>Value.int .i64 (n:Int)) m (add ks key).zipIdx]):=by
 refine aF func168 F ntmps168 F ?_
 refine ai (aj F (ae (ai (ad (bi 0 iJ F F F F) (ah F (ad (bK (jK (a:=key) iJ bj (gh.string ve) F F (mG 1 F)) (v':=(.tuple #[vI 0,.bool false])) (by rw[li];simp[hk])) (ah F (ad (bE (vs:=_) F F) (ad (bE (vs:=_) F F) (aj F (aj F (ae (aM (ai (ah F (ad (jh F) (ae ?_)))))))))))))))))
 refine bO F ?_
 refine ai (ad (bi 0 iJ F F F F) (ad (bK (qg iJ F (mG 1 F)) (v':=vN ks.length) (by simp)) (aj F (ae (a7 (ad (bi 0 iJ F F F F) (ah F (ah F (ao F (qh (a:=key) (v:=ks.length) 1 iJ (gh.string ve) F F F F (by rw[mW];exact hk) ?_))))))))))
 refine ae (ai (ah F (aj F (ae (aK ?_)))))
 refine aS (vN ks.length) Tryz.results168 F ?_
 have ha:add ks key=ks++[key]:=az hk
 rw[ha]
 refine⟨by rw[fS hk];simp[ix],?_⟩
 rw[show(ks++[key]).zipIdx=ks.zipIdx++[(key,ks.length)] by rw[List.zipIdx_append];simp];rfl
theorem aaq (base:World) [dE Tryz.prog base] (bx m:Nat) (ks:List (List UInt8)) (key:List UInt8) (hb:ks.length<1000000):
  bW Tryz.prog base 168 [str key,.pointer (aD bx)] [dF bx (.cells #[.map (some m)] 160 (0,0)),dz str (fun n:Nat=>Value.int .i64 (n:Int)) m ks.zipIdx] (fun v O'=>v=vN (ix key (add ks key))∧O'=[dF bx (.cells #[.map (some m)] 160 (0,0)),dz str (fun n:Nat=>Value.int .i64 (n:Int)) m (add ks key).zipIdx]):=by
 by_cases hk:key∈ks
 ·exact O_ base bx m ks key hk hb
 ·exact L0 base bx m ks key hk hb
theorem Q3 (w:World) [dE Tryz.prog w] (d:cU) (nb fb:Option Addr) (nc fc:Nat):cH Tryz.prog 51 [.agg (fw d nb nc fb fc).toArray] w fun v N=> ∃b,v=.func (.func 82) #[] #[.pointer (aD b)]∧N=[oI b 25 [(vI d.vars),(vI d.start),(.slice nb d.next.length nc),(.slice fb d.aY.length fc)]]:=by
 refine aF func51 F ntmps51 F ?_
 refine ai (ao F (dG (cs:=[(vI d.vars),(vI d.start),(.slice nb d.next.length nc),(.slice fb d.aY.length fc)]) F F (fun b1=>?_)))
 refine aj F (ae (ai (ad (eZ) (aj F (ae (aK ?_))))))
 refine aS (.func (.func 82) #[] #[(.pointer (aD b1))]) Tryz.results51 F ?_
 exact⟨b1,F,F⟩
theorem Q4 (base:World) [dE Tryz.prog base] (d:cU) (nb fb:Option Addr) (nc fc:Nat) (vs:List Value) (h:jt base d nb vs fb) (hb:d.next.length<9223372036854775807) (bx:Nat) (yv:Value) (J:Nat→List Lx.Item→Prop) (Q:List Lx.Item→Prop)
  (hy: ∀k (hk:k<d.next.length) (vb:Option Addr) (vc:Nat) (O:List Lx.Item),vs[k]? =some (.slice vb d.next[k].length vc)→Sl base vb (ints d.next[k])→J k O→
   eK Tryz.prog base yv [vI (k:Int),.slice vb d.next[k].length vc] O (fun v O'=>(v=.bool true∧J (k+1) O')∨(v=.bool false∧Q O')))
  (O:List Lx.Item) (h0:J 0 O):bW Tryz.prog base 82 [yv,.pointer (aD bx)] (oI bx 25 [(vI d.vars),(vI d.start),(.slice nb d.next.length nc),(.slice fb d.aY.length fc)]::O) (fun _ O'=>J d.next.length O'∨Q O'):=by
 refine aF func82 F ntmps82 F ?_
 have Nk:=h.rows.1
 refine ai (ad (a_ cZ F fz F F) (ad (bi 0 e_ F F F F) (ad (cQ e_ F) (ah F (ae (aU ?_))))))
 let eP:List Lx.Item:=[oI bx 25 [(vI d.vars),(vI d.start),(.slice nb d.next.length nc),(.slice fb d.aY.length fc)]]
 refine eF (fun(k:Nat) ρ O=> ∃(O1:List Lx.Item),O=(eP++O1)∧k≤d.next.length∧J k O1∧dv [(0,yv),(1,(.pointer (aD bx))),(6,(.slice nb d.next.length nc)),(7,vI (d.next.length:Int)),(8,vI (k:Int))] ρ) (fun k=>d.next.length-k) 0 ?_ ?_
 ·exact⟨O,F,bn _,h0,(.of F)⟩
 rintro k ρ O ⟨O1,rfl,hk,hJ,hH⟩
 obtain⟨gF,rfl⟩:=hH.elim
 clear hH
 refine ai (ad (cT F F) (ae (aM (aP F (fun hc=>?_) (fun hc=>?_)))))
 ·have ku:k<d.next.length:=by omega
  obtain⟨vb,vc,g1,s1⟩:=h.rows.get ku
  refine aE (aM (aU (ai (ah F (ad (dU (i:=k) e_ cV F F (aL h.outer)) (ad (de cL F F (aL h.outer) g1) (aj F (aj F (ae (ai (ah F (ah F (ah F ?_)))))))))))))
  have qA:=eK.under (B:=eP) (O:=(eP++O1)) (hy k ku vb vc O1 g1 s1 hJ) (gW [])
  refine ao F (eN qA F F ?_)
  clear qA
  rintro v O' ⟨O2,rfl,⟨rfl,UA⟩|⟨rfl,hQ2⟩⟩
  ·refine ad (jh F) ?_
   refine ae (a6 F (aE ?_))
   refine dx (O':=oI bx 25 [(vI d.vars),(vI d.start),(.slice nb d.next.length nc),(.slice fb d.aY.length fc)]::O2) (gW []) ?_
   refine a7 (ad (lz F F (by omega)) (ah F (ae ?_)))
   exact⟨k+1,by omega,O2,F,by omega,UA,(.of F)⟩
  refine ad (jh F) (ae ?_)
  refine bO F ?_
  refine aK (aA ?_)
  refine qZ.zero Tryz.results82 ?_
  exact⟨O2,gW eP,.inr hQ2⟩
 have Kf: ¬k<d.next.length:=by omega
 refine cK ?_
 refine aA ?_
 refine qZ.zero Tryz.results82 ?_
 have Ux:k=d.next.length:=by omega
 subst Ux
 exact⟨O1,gW eP,.inl hJ⟩
theorem Pb (w:World) [dE Tryz.prog w] (d:cU) (nb fb:Option Addr) (nc fc:Nat) (vs:List Value) (h:jt w d nb vs fb) (hv:Valid d) (cb:Option Addr) (cc:Nat) (cs:List Nat) (wM:Sl w cb (bS cs)) (n_:cs.length=d.next.length) (DM: ∀x∈cs,x<10000):
  cH Tryz.prog 119 [.agg (fw d nb nc fb fc).toArray,.slice cb d.next.length cc] w fun v N=> ∃b c,v=.slice b d.next.length c∧N=[aq b c 3 1 (bS (iT d cs))]:=by
 refine aF func119 F ntmps119 F ?_
 have hb:d.next.length<9223372036854775807:=by have:=hv.n4;omega
 have Nk:=h.rows.1
 have Zr:=hv.n4
 let oV:Value:=(.slice fb d.aY.length fc)
 let lu:Value:=(.slice nb d.next.length nc)
 refine ai (ao F (dG (cs:=[(vI d.vars),(vI d.start),lu,oV]) F F (fun b1=>?_)))
 refine ao F (dG (cs:=[(.slice cb d.next.length cc)]) F F (fun b2=>?_))
 refine aj F (ae (ai (ao F (lM str (fun n:Nat=>Value.int .i64 (n:Int)) (fun m3=>?_)))))
 refine ao F (bs A6 F (fun b4=>?_))
 refine ao F (bN (vs:=[(.map (some m3))]) 0 A6 F F F F ?_)
 refine ae (ai (ad (eZ) (ao F (bs Lo F (fun b5=>?_)))))
 refine ao F (bN (vs:=[(.func (.func 168) #[] #[(.pointer (aD b4))])]) 0 Lo F F F F ?_)
 refine ae (ai (ad (bi 3 cL F F F F) (ad (cQ cL F) (ao F (cY (m:=d.next.length) cL bj F F (by omega) (by omega) (fun b6=>?_))))))
 refine ao F (bs cV F (fun b7=>?_))
 refine ao F (bN (vs:=[(.slice (aD b6) d.next.length d.next.length)]) 0 cV F F F F ?_)
 refine ae (aM (ai (ad (eu 6 cZ F bL F F F) ?_)))
 let gu:Lx.Item:=oI b5 180 [(.func (.func 168) #[] #[(.pointer (aD b4))])]
 let gK:Lx.Item:=oI b7 56 [(.slice (aD b6) d.next.length d.next.length)]
 let jD:Lx.Item:=oI b4 160 [(.map (some m3))]
 have qu:=fun(w1:World) (hI:Inv w [gK,aq (aD b6) d.next.length 3 1 (List.replicate d.next.length (vI 0)),gu,jD,dz str (fun n:Nat=>Value.int .i64 (n:Int)) m3 [],oI b2 56 [(.slice cb d.next.length cc)],oI b1 25 [(vI d.vars),(vI d.start),(.slice nb d.next.length nc),(.slice fb d.aY.length fc)]] w1)=>(haveI:=et hI;Q3 w1 d nb fb nc fc)
 refine ao F (bl QR (aX qu) F ?_)
 clear qu
 rintro v O' ⟨N,rfl,bR,rfl,rfl⟩
 refine ae (aU ?_)
 refine T.rangeFunc (first:=[]) (gr:=[(.pointer (aD bR))]) F QU (fun yl yq TW=>?_)
 let gC:Lx.Item:=oI b1 25 [(vI d.vars),(vI d.start),(.slice nb d.next.length nc),(.slice fb d.aY.length fc)]
 let lw:Lx.Item:=oI b2 56 [(.slice cb d.next.length cc)]
 refine bW.mono (bW.sub (O':=oI bR 25 [(vI d.vars),(vI d.start),lu,oV]::(dF yl (lp yq none)::[gK,aq (aD b6) d.next.length 3 1 (List.replicate d.next.length (vI 0)),gu,jD,dz str (fun n:Nat=>Value.int .i64 (n:Int)) m3 [],lw,gC])) (aC [1,0,0,0,0,0,0,0,0] F) (Q4 w d nb fb nc fc vs h hb bR (.func (.yield yl) #[] #[]) (fun k O=> ∃(xs:List Nat) (ks:List (List UInt8)),O=dF yl (lp yq none)::[gK,aq (aD b6) d.next.length 3 1 (bS xs),gu,jD,dz str (fun n:Nat=>Value.int .i64 (n:Int)) m3 ks.zipIdx,lw,gC]∧k≤d.next.length∧xs.length=d.next.length∧ks=dd ((jd d cs).take k)∧(∀s,s<k→xs[s]? =some (ix (xX d cs s) ks))) (fun _=>False) ?_ _ ?_)) ?_
 ·intro k gn vb vc O g1 s1 hJ
  obtain⟨xs,ks,rfl,hk,yY,om,mX⟩:=hJ
  refine eK.yield TW F F ?_
  have XN:k<cs.length:=by omega
  have sf:d.next[k].length=2^d.vars.toNat:=hv.len _ (aQ gn)
  have IK:d.next[k].length≤64:=by
   rw[sf];have:=hv.v6;have:=hv.v0
   exact cn (cF (by omega) (show d.vars.toNat≤6 by omega)) (by decide)
  have aas:ks.length<1000000:=by
   have h1:=uJ ((jd d cs).take k)
   have h2:((jd d cs).take k).length≤d.next.length:=by rw[ck];simp[jd];omega
   rw[om];omega
  have tH: ∀j (hj:j<d.next[k].length),0≤d.next[k][j]∧d.next[k][j].toNat<cs.length:=fun j hj=>by have:=hv.ok _ (aQ gn) _ (aQ hj);omega
  have UB:cs[k]<10000:=DM _ (aQ XN)
  have Kp: ∀x∈gd cs d.next[k],x<10000:=Pc DM
  refine ai (aj F (ae (a7 (aj F (ae (aU (aM (T.eX 5 1 ?_))))))))
  refine a7 (ad (bi 6 cL F F F F) (ah F (ad (dU (i:=k) cL bj F F (aL wM)) (ad (de dP F F (aL wM) ij) ?_))))
  let iG:Lx.Item:=aq (aD b6) d.next.length 3 1 (bS xs)
  have L1:=bW.under (B:=[gK,iG,gu,jD,dz str (fun n:Nat=>Value.int .i64 (n:Int)) m3 ks.zipIdx,lw,gC]) (O:=[aq none 0 5 1 (di []),gK,iG,gu,jD,dz str (fun n:Nat=>Value.int .i64 (n:Int)) m3 ks.zipIdx,lw,gC]) (Sc w none 0 0 0 cs[k] [] F (Nat.lt_trans UB (by decide)) (by omega)) (aC [0,0,0,0,0,0,0,0] F)
  refine ao F (bl AL L1 F ?_)
  clear L1
  rintro v O' ⟨A1,rfl,kb,kc,rfl,rfl⟩
  refine aj F (ae (aM (ai (ah F (ad (cQ cL F) (ah F (ae (aU ?_))))))))
  refine eF (fun(j:Nat) ρ O=> ∃(kb:Option Addr) (kc m:Nat),O=[aq kb kc 5 1 (di (iX cs[k] (List.take j (gd cs d.next[k])))),gK,iG,gu,jD,dz str (fun n:Nat=>Value.int .i64 (n:Int)) m3 ks.zipIdx,lw,gC]∧j≤d.next[k].length∧m=(iX cs[k] (List.take j (gd cs d.next[k]))).length∧dv [(0,(.agg #[(vI d.vars),(vI d.start),lu,oV])),(1,(.slice cb d.next.length cc)),(2,(.pointer (aD b1))),(3,(.pointer (aD b2))),(4,nS),(5,(.pointer (aD b4))),(6,(.pointer (aD b5))),(7,(.pointer (aD b7))),(8,vI (k:Int)),(9,(.slice vb d.next[k].length vc)),(10,(.slice kb m kc)),(27,(.slice vb d.next[k].length vc)),(28,vI (d.next[k].length:Int)),(29,vI (j:Int))] ρ) (fun j=>d.next[k].length-j) 0 ?_ ?_
  ·refine⟨kb,kc,_,?_,bn _,?_,(.of F)⟩
   ·rw[show iX cs[k] (List.take 0 (gd cs d.next[k]))=[]++Lib.decDigits cs[k] by simp[iX,jB]]
    rfl
   ·simp[iX,jB]
  rintro j ρ O ⟨kb,kc,m,rfl,hj,hm,hH⟩
  obtain⟨gF,rfl⟩:=hH.elim
  clear hH
  have hm9:m≤324:=by
   have:=L2 UB (fun x hx=>Kp x (List.mem_of_mem_take hx): ∀x∈List.take j (gd cs d.next[k]),x<10000)
   rw[ck]at this;omega
  refine ai (ad (cT F F) (ae (aM (aP F (fun hc=>?_) (fun hc=>?_)))))
  ·have iP:j<d.next[k].length:=by omega
   have htj:=(tH j iP).2
   refine aE (aM (aU (ai (ad (dU (i:=j) cL bj F F (aL s1)) (ad (de dP F F (aL s1) gL) (aj F (ae ?_)))))))
   refine T.ds [lw] [(0,0),(3,0),(4,0),(5,0),(6,0),(1,1),(2,1),(7,2),(8,2)] (aC [6] F) ?_
   refine au F (aN F) (au F (bi 0 cL F F F F) (au F (aN F) (au F (FB (i:=d.next[k][j]) cL bj F F (aL wM) (tH j iP).1 (n_▸(tH j iP).2) (by rw[ar];exact(tH j iP).2)) (au F (de dP F F (aL wM) (ij (tH j iP).2)) ?_))))
   refine cr F F (cN (v:=.int .u8 32) lh du F F F (fun b8=>⟨aC [7] F,?_⟩))
   refine cr F F (cW 1 lh lh du F F F F (by rw[ar,←hm,Nat.mul_one]) (by decide) (Src.row (j:=0) F (by simp)) (by simp[fa]) (by omega) (by decide) (by decide) (fun b9 c10=>⟨aC [7] F,?_⟩))
   have oE:=bW.under (B:=[aq (aD b8) 1 5 1 [.int .u8 32],gK,iG,gu,jD,dz str (fun n:Nat=>Value.int .i64 (n:Int)) m3 ks.zipIdx,lw,gC]) (O:=[aq (aD b8) 1 5 1 [.int .u8 32],aq b9 c10 5 1 ((di (iX cs[k] (List.take j (gd cs d.next[k]))))++[.int .u8 32]),gK,iG,gu,jD,dz str (fun n:Nat=>Value.int .i64 (n:Int)) m3 ks.zipIdx,lw,gC]) (Sc w b9 c10 c10 (m+1) cs[d.next[k][j].toNat] (iX cs[k] (List.take j (gd cs d.next[k]))++[32]) (by rw[aw,←hm];rfl) (Nat.lt_trans (DM _ (aQ (tH j iP).2)) (by decide)) (by omega)) (by rw[Dp];exact(aC [1,0,0,0,0,0,0,0,0] F))
   refine b_ F F (bl AL oE F ?_)
   clear oE
   rintro v O' ⟨A1,rfl,kb3,kc3,rfl,rfl⟩
   refine e7 (O':=[aq kb3 kc3 5 1 (di (iX cs[k] (List.take j (gd cs d.next[k]))++[32]++Lib.decDigits cs[d.next[k][j].toNat])),gK,iG,gu,jD,dz str (fun n:Nat=>Value.int .i64 (n:Int)) m3 ks.zipIdx,lw,gC]) (aC [0,1,1,1,1,1,1,1] F) ?_
   refine b_ F F (d_ F F (cx F) ?_)
   refine cw ?_
   refine a7 (ad (lz F F (by omega)) (ah F (ae ?_)))
   have yA:=L3 (a:=cs[k]) iP (tH j iP).2
   refine⟨j+1,by omega,kb3,kc3,_,by rw[yA],by omega,?_,(.of F)⟩
   rw[yA,aw,aw,←hm];rfl
  have FH: ¬j<d.next[k].length:=by omega
  refine cK ?_
  have hjf:j=d.next[k].length:=by omega
  have Q5:List.take j (gd cs d.next[k])=gd cs d.next[k]:=bw (by simp[gd];omega)
  have hKE:xX d cs k=iX cs[k] (gd cs d.next[k]):=Pd gn XN
  let tk:Lx.Item:=aq kb kc 5 1 (di (iX cs[k] (List.take j (gd cs d.next[k]))))
  refine T.ds [tk,gK,iG,gu,jD,lw,gC] [(0,0),(1,0),(2,0),(3,0),(4,0),(5,1),(6,0),(7,2)] (aC [0,0,0,0,0,1,1] F) ?_
  refine au F (bi 1 cL F F F F) (au F (aN F) (au F (bi 3 XO F F F F) (au F (aN F) (au F (BS (l:=iX cs[k] (List.take j (gd cs d.next[k]))) lh ve fA F (mG 0 F) hm.symm) ?_))))
  have XP:=cP (first:=[]) (args:=[str (iX cs[k] (List.take j (gd cs d.next[k])))]) (gr:=[(.pointer (aD b4))]) TD (bW.under (B:=[tk,gK,iG,gu,lw,gC]) (O:=[tk,gK,iG,gu,jD,dz str (fun n:Nat=>Value.int .i64 (n:Int)) m3 ks.zipIdx,lw,gC]) (aaq w b4 m3 ks (iX cs[k] (List.take j (gd cs d.next[k]))) aas) (aC [4,4,0,0,0,0,0,0] F))
  refine cr F F (eN XP F F ?_)
  clear XP
  rintro v O' ⟨A1,rfl,rfl,rfl⟩
  refine⟨aC [2,2,2,2,0,1,1] F,?_⟩
  refine e7 (O':=[tk,gK,iG,gu,jD,dz str (fun n:Nat=>Value.int .i64 (n:Int)) m3 ((add ks (iX cs[k] (List.take j (gd cs d.next[k])))).zipIdx),lw,gC]) (aC [2,2,2,2,0,0,0,0] F) ?_
  refine au F (dU (i:=k) cL bj F F (dR (mG 2 F))) ?_
  refine b_ F F (ol (j:=k) (v:=vI ((ix (iX cs[k] (List.take j (gd cs d.next[k]))) (add ks (iX cs[k] (List.take j (gd cs d.next[k])))):Nat):Int)) (vs:=[(vI ((ix (iX cs[k] (List.take j (gd cs d.next[k]))) (add ks (iX cs[k] (List.take j (gd cs d.next[k])))):Nat):Int))]) (cs:=bS xs) 2 bj F F F F F (by simp) F (by first|(simp;omega)|(simp_all;omega)) ?_)
  let ut:Lx.Item:=aq (aD b6) d.next.length 3 1 (bS (xs.set k (ix (iX cs[k] (List.take j (gd cs d.next[k]))) (add ks (iX cs[k] (List.take j (gd cs d.next[k])))))))
  refine e7 (O':=[tk,gK,ut,gu,jD,dz str (fun n:Nat=>Value.int .i64 (n:Int)) m3 ((add ks (iX cs[k] (List.take j (gd cs d.next[k])))).zipIdx),lw,gC]) (by rw[show fh (bS xs) k [(vI ((ix (iX cs[k] (List.take j (gd cs d.next[k]))) (add ks (iX cs[k] (List.take j (gd cs d.next[k])))):Nat):Int))]=bS (xs.set k (ix (iX cs[k] (List.take j (gd cs d.next[k]))) (add ks (iX cs[k] (List.take j (gd cs d.next[k]))))))from by simp[fh]];exact cj (aZ _)) ?_
  refine e7 (O':=[gK,ut,gu,jD,dz str (fun n:Nat=>Value.int .i64 (n:Int)) m3 ((add ks (iX cs[k] (List.take j (gd cs d.next[k])))).zipIdx),lw,gC]) (aC [1,1,1,1,1,1,1] F) ?_
  refine cw ?_
  refine .inl ⟨F,xs.set k (ix (iX cs[k] (List.take j (gd cs d.next[k]))) (add ks (iX cs[k] (List.take j (gd cs d.next[k]))))),add ks (iX cs[k] (List.take j (gd cs d.next[k]))),F,by omega,by simp[yY],?_,?_⟩
  ·rw[E6 gn,Be,←om,hKE,Q5]
  ·intro s hs
   by_cases e:s=k
   ·subst e;rw[List.getElem?_set_self (by omega),hKE,Q5]
   ·rw[List.getElem?_set_ne (fun h=>e h.symm),mX s (by omega)]
    refine ax some (ig (jM _ _) ?_).symm
    rw[om];exact j5.2 (L4 (by omega) (by omega))
 ·refine⟨List.replicate d.next.length 0,[],?_,bn _,by simp,by simp[dd],fun s hs=>absurd hs (by omega)⟩
  simp
 rintro v O' (⟨xs,ks,rfl,hk,yY,om,mX⟩|hF)
 rotate_left
 ·exact hF.elim
 refine⟨none,_,F,?_⟩
 refine ai (ad (bi 0 cL F F F F) (aj F (ae (aK (aA ?_)))))
 refine aS (.slice (aD b6) d.next.length d.next.length) Tryz.results119 F ?_
 have hx:xs=iT d cs:=by
  apply List.ext_getElem?
  intro s
  by_cases hs:s<d.next.length
  ·rw[mX s hs,om,bw (by simp[jd])];simp[iT,jd,hs]
  ·rw[bZ (by omega),bZ (by simp[iT,jd];omega)]
 exact⟨[aq (aD b6) d.next.length 3 1 (bS xs)],(aC [1] F),_,_,F,by rw[hx]⟩
theorem TX (w:World) [dE Tryz.prog w] (d:cU) (nb fb:Option Addr) (nc fc:Nat) (vs:List Value) (h:jt w d nb vs fb) (hv:Valid d):
  cH Tryz.prog 118 [.agg (fw d nb nc fb fc).toArray] w fun v N=> ∃b c,v=.slice b d.next.length c∧N=[aq b c 3 1 (bS (mv d))]:=by
 refine aF func118 F ntmps118 F ?_
 have Zr:=hv.n4
 have Rw:=hv.n0
 have rL:=hv.fin
 refine ai (ao F (dG (cs:=[(vI d.vars),(vI d.start),(.slice nb d.next.length nc),(.slice fb d.aY.length fc)]) F F (fun b1=>?_)))
 refine aj F (ae (ai (ad (a_ cZ F fz F F) (ad (bi 0 e_ F F F F) (ad (cQ e_ F) (ao F (cY (m:=d.next.length) cL bj F F (by omega) (by omega) (fun b2=>?_))))))))
 refine aj F (ae (aM (ai (ah F (ad (cQ cL F) (ah F (ae (aU ?_))))))))
 refine eF (fun(k:Nat) ρ O=> ∃(xs:List Nat),O=[aq (aD b2) d.next.length 3 1 (bS xs),oI b1 25 [(vI d.vars),(vI d.start),(.slice nb d.next.length nc),(.slice fb d.aY.length fc)]]∧k≤d.next.length∧xs.length=d.next.length∧(∀s,s<k→xs[s]? =some (if d.aY.getD s false≠d.aY.getD 0 false then 1 else 0))∧(∀s,k≤s→s<d.next.length→xs[s]? =some 0)∧dv [(0,(.agg #[(vI d.vars),(vI d.start),(.slice nb d.next.length nc),(.slice fb d.aY.length fc)])),(1,(.pointer (aD b1))),(2,nS),(3,(.slice (aD b2) d.next.length d.next.length)),(10,vI (d.next.length:Int)),(11,vI (k:Int))] ρ) (fun k=>d.next.length-k) 0 ?_ ?_
 ·refine⟨List.replicate d.next.length 0,by simp,bn _,by simp,fun s hs=>absurd hs (by omega),fun s _ hs=>by simp[hs],(.of F)⟩
 rintro k ρ O ⟨xs,rfl,hk,yY,L5,L6,hH⟩
 obtain⟨gF,rfl⟩:=hH.elim
 clear hH
 refine ai (ad (cT F F) (ae (aM (aP F (fun hc=>?_) (fun hc=>?_)))))
 ·have Cw:k<d.next.length:=by omega
  have TY:k<d.aY.length:=by omega
  have h0f:0<d.aY.length:=by omega
  have hkx:k<xs.length:=by omega
  refine aE (aM (aU (ai (ah F (aj F (ae (aM ?_)))))))
  refine T.ds [oI b1 25 [(vI d.vars),(vI d.start),(.slice nb d.next.length nc),(.slice fb d.aY.length fc)]] [(0,0),(1,0),(2,0),(3,0),(4,0),(5,0),(6,0),(7,0),(8,0),(9,0)] (aC [1] F) ?_
  refine au F (a_ cZ F dA F F) (au F (bi 0 eB F F F F) (au F (aN F) (au F (dU (i:=k) eB fx F F (aL h.aY)) (au F (de AG F F (aL h.aY) iB) (au F (a_ cZ F dA F F) (au F (bi 0 eB F F F F) (au F (dU (i:=0) eB fx F F (aL h.aY)) (au F (de AG F F (aL h.aY) iB) (au F (Jo AG F F) ?_)))))))))
  refine cw ?_
  refine aP (p:= ¬d.aY[k]=d.aY[0]) (ax Value.bool (by cases d.aY[k]<;>cases d.aY[0]<;>rfl)) (fun hc=>?_) (fun hc=>?_)
  ·refine a7 ?_
   refine ah F (ah F (ad (dU (i:=k) cL bj F F (dR (mG 0 F))) (ao F (ol (j:=k) (v:=vI 1) (vs:=[(vI 1)]) (cs:=bS xs) 0 bj F F F F F (by simp) F (by first|(simp;omega)|(simp_all;omega)) ?_))))
   refine dX (O':=[aq (aD b2) d.next.length 3 1 (bS (xs.set k 1)),oI b1 25 [(vI d.vars),(vI d.start),(.slice nb d.next.length nc),(.slice fb d.aY.length fc)]]) (by rw[show fh (bS xs) k [(vI 1)]=bS (xs.set k 1)from by simp[fh]];exact cj (aZ _)) ?_
   refine ae (a7 (ad (lz F F (by omega)) (ah F (ae ?_))))
   refine⟨k+1,by omega,xs.set k 1,F,by omega,by simp[yY],fun s hs=>?_,fun s h1 h2=>?_,(.of F)⟩
   ·by_cases e:s=k
    ·subst e;rw[List.getElem?_set_self (by omega)];simp[TY,h0f,hc]
    ·rw[List.getElem?_set_ne (fun h=>e h.symm)];exact L5 s (by omega)
   ·rw[List.getElem?_set_ne (by omega)];exact L6 s (by omega) h2
  refine aE (a7 (ad (lz F F (by omega)) (ah F (ae ?_))))
  refine⟨k+1,by omega,xs,F,by omega,yY,fun s hs=>?_,fun s h1 h2=>L6 s (by omega) h2,(.of F)⟩
  by_cases e:s=k
  ·subst e;rw[L6 _ (bF _) Cw];simp[TY,h0f,Classical.not_not.1 hc]
  ·exact L5 s (by omega)
 have Qg: ¬k<d.next.length:=by omega
 refine cK ?_
 refine ai (ah F (aj F (ae (aK (aA ?_)))))
 refine aS (.slice (aD b2) d.next.length d.next.length) Tryz.results118 F ?_
 have hx:xs=mv d:=by
  apply List.ext_getElem?
  intro s
  by_cases hs:s<d.next.length
  ·rw[L5 s (by omega)];simp[mv,hs]
  ·rw[bZ (by omega),bZ (by simp[mv];omega)]
 exact⟨[aq (aD b2) d.next.length 3 1 (bS xs)],(aC [0] F),_,_,F,by rw[hx]⟩
theorem vA (w:World) [dE Tryz.prog w] (b1 b2:Option Addr) (c1 c2 n:Nat) (xs ys:List Nat) (h1:Sl w b1 (bS xs)) (h2:Sl w b2 (bS ys)) (hx:xs.length=n) (hy:ys.length=n) (hb:n<9223372036854775807):
  cH Tryz.prog 120 [.slice b1 n c1,.slice b2 n c2] w fun v N=>v=.bool (decide (xs=ys))∧N=[]:=by
 refine aF func120 F ntmps120 F ?_
 refine ai (aj F (ae (aM (ai (ah F (ad (cQ cL F) (ah F (ad (cQ cL F) (ad (dQ F F) (ae (aP F (fun hc=>?_) (fun hc=>?_))))))))))))
 ·exact absurd hc (by omega)
 have vg: ¬n≠n:=by omega
 refine aE (aM (ai (ah F (ad (cQ cL F) (ah F (ae (aU ?_)))))))
 refine eF (fun(k:Nat) ρ O=>O=[]∧k≤n∧xs.take k=ys.take k∧dv [(0,(.slice b1 n c1)),(1,(.slice b2 n c2)),(12,vI (n:Int)),(13,vI (k:Int))] ρ) (fun k=>n-k) 0 ?_ ?_
 ·exact⟨F,bn _,F,⟨F,F,F,F,trivial⟩⟩
 rintro k ρ O ⟨rfl,hk,he,hH⟩
 obtain⟨gF,rfl⟩:=hH.elim
 clear hH
 refine ai (ad (cT F F) (ae (aM (aP F (fun hc=>?_) (fun hc=>?_)))))
 ·have pN:k<n:=by omega
  have hkx:k<xs.length:=by omega
  have hky:k<ys.length:=by omega
  refine aE (aM (aU (ai (ah F (aj F (ae (aM ?_)))))))
  refine fD [(0,0),(1,0),(2,0),(3,0),(4,0),(5,0),(6,0),(7,0),(8,0)] ?_
  refine au F (aN F) (au F (aN F) (au F (dU (i:=k) cL bj F F (aL h1)) (au F (de dP F F (aL h1) ij) (au F (aN F) (au F (aN F) (au F (dU (i:=k) cL bj F F (aL h2)) (au F (de dP F F (aL h2) ij) (au F (dQ F F) ?_))))))))
  refine cw ?_
  refine aP (p:= ¬xs[k]=ys[k]) (ax Value.bool (decide_eq_decide.2 (by omega))) (fun hc=>?_) (fun hc=>?_)
  ·have lA:xs[k]≠ys[k]:=by omega
   refine ai (aj F (ae (aK ?_)))
   refine aS (.bool false) Tryz.results120 F ?_
   exact⟨ax Value.bool (ak (fun e=>hc (by subst e;rfl))).symm,F⟩
  have BH: ¬xs[k]≠ys[k]:=by omega
  refine aE (a7 (ad (lz F F (by omega)) (ah F (ae ?_))))
  refine⟨k+1,by omega,F,by omega,?_,⟨F,F,F,F,trivial⟩⟩
  rw[aH hkx,aH hky,he]
  exact ax _ (ax (fun z=>[z]) (Classical.not_not.1 hc))
 have xC: ¬k<n:=by omega
 refine cK ?_
 refine ai (aj F (ae (aK ?_)))
 refine aS (.bool true) Tryz.results120 F ?_
 exact⟨ax Value.bool (ay (show xs=ys by rw[bw (by omega),bw (by omega)]at he;exact he)).symm,F⟩
theorem Ip (w:World) [dE Tryz.prog w] (d:cU) (nb fb:Option Addr) (nc fc:Nat) (vs:List Value) (h:jt w d nb vs fb) (hb:d.next.length<9223372036854775807) (vY: ∀r∈d.next,r.length<9223372036854775807) (yw:d.aY.length<9223372036854775807) (he:dD d≠0) (k:Int):
  cH Tryz.prog 81 [.agg (fw d nb nc fb fc).toArray,vI k] w fun v N=>v=.tuple #[nS,vI (dD d:Int)]∧N=[]:=by
 refine aF func81 F ntmps81 F ?_
 refine ai (ao F (dG (cs:=[(vI d.vars),(vI d.start),(.slice nb d.next.length nc),(.slice fb d.aY.length fc)]) F F (fun b1=>?_)))
 refine aj F (aj F (ae (aM (ai (ad (eu 0 cZ F bL F F F) ?_)))))
 have qx:=fun(w1:World) (hI:Inv w [oI b1 25 [(vI d.vars),(vI d.start),(.slice nb d.next.length nc),(.slice fb d.aY.length fc)]] w1)=>(haveI:=et hI;jf w1 d nb fb nc fc vs (hI.BQ h) hb vY yw)
 refine ao F (bl vp (aX qx) F ?_)
 clear qx
 rintro v O' ⟨N,rfl,rfl,rfl⟩
 refine aj F (ae (ai (ah F (ad (aB (dQ F F) (ay (by omega))) (ae ?_)))))
 refine bO F ?_
 refine ai (ah F (aj F (aj F (ae (aK (aA ?_))))))
 refine dl nS (vI (dD d:Int)) Tryz.results81 F F ?_
 exact⟨[],cj (cq _),F,F⟩
theorem L7 (w:World) [dE Tryz.prog w] (d:cU) (nb fb:Option Addr) (nc fc:Nat) (vs:List Value) (h:jt w d nb vs fb) (hv:Valid d) (hn:d.next.length<10000) (k:Int) (u_:k≤9223372036854775807):
  cH Tryz.prog 81 [.agg (fw d nb nc fb fc).toArray,vI k] w fun v N=> ∃b c,v=.tuple #[.slice b d.next.length c,vI 0]∧N=[aq b c 3 1 (bS (ie d k.toNat))]:=by
 refine aF func81 F ntmps81 F ?_
 have he:=eA.2 hv
 have hb:d.next.length<9223372036854775807:=by omega
 have vY: ∀r∈d.next,r.length<9223372036854775807:=hv.wJ
 have yw:d.aY.length<9223372036854775807:=by have:=hv.fin;omega
 refine ai (ao F (dG (cs:=[(vI d.vars),(vI d.start),(.slice nb d.next.length nc),(.slice fb d.aY.length fc)]) F F (fun b1=>?_)))
 refine aj F (aj F (ae (aM (ai (ad (eu 0 cZ F bL F F F) ?_)))))
 have qx:=fun(w1:World) (hI:Inv w [oI b1 25 [(vI d.vars),(vI d.start),(.slice nb d.next.length nc),(.slice fb d.aY.length fc)]] w1)=>(haveI:=et hI;jf w1 d nb fb nc fc vs (hI.BQ h) hb vY yw)
 refine ao F (bl vp (aX qx) F ?_)
 clear qx
 rintro v O' ⟨N,rfl,rfl,rfl⟩
 rw[he]
 refine aj F (ae (ai (ah F (ad (dQ F F) (ae (a6 F (aE (ai (ad (eu 0 cZ F bL F F F) ?_)))))))))
 have Ke:=fun(w1:World) (hI:Inv w [oI b1 25 [(vI d.vars),(vI d.start),(.slice nb d.next.length nc),(.slice fb d.aY.length fc)]] w1)=>(haveI:=et hI;TX w1 d nb fb nc fc vs (hI.BQ h) hv)
 refine ao F (bl Tw (aX Ke) F ?_)
 clear Ke
 rintro v O' ⟨N,rfl,b0,c0,rfl,rfl⟩
 refine aj F (ae (aM (ai (ah F (ah F (ae (aU ?_)))))))
 refine eF (fun(i:Nat) ρ O=> ∃(b:Option Addr) (c:Nat),O=[aq b c 3 1 (bS (ie d i)),oI b1 25 [(vI d.vars),(vI d.start),(.slice nb d.next.length nc),(.slice fb d.aY.length fc)]]∧i≤k.toNat∧dv [(0,(.agg #[(vI d.vars),(vI d.start),(.slice nb d.next.length nc),(.slice fb d.aY.length fc)])),(1,vI k),(2,(.pointer (aD b1))),(4,nS),(5,vI 0),(6,vN 0),(7,(.slice b d.next.length c)),(16,vI k),(17,vI (i:Int))] ρ) (fun i=>k.toNat-i) 0 ?_ ?_
 ·exact⟨b0,c0,F,bn _,(.of F)⟩
 rintro i ρ O ⟨b,c,rfl,Ul,hH⟩
 obtain⟨gF,rfl⟩:=hH.elim
 clear hH
 refine ai (ad (cT F F) (ae (aM (aP F (fun hc=>?_) (fun hc=>?_)))))
 ·have hik:i<k.toNat:=by omega
  refine aE (aM (aU (ai (ad (eu 1 cZ F bL F F F) (ah F ?_)))))
  have L8:=fun(w1:World) (hI:Inv w [aq b c 3 1 (bS (ie d i)),oI b1 25 [(vI d.vars),(vI d.start),(.slice nb d.next.length nc),(.slice fb d.aY.length fc)]] w1)=>(haveI:=et hI;Pb w1 d nb fb nc fc vs (hI.BQ h) hv b c (ie d i) (hI.ii (mG 0 F)) (fu d i) (L9 hn i))
  refine ao F (bl Tx (aX L8) F ?_)
  clear L8
  rintro v O' ⟨N,rfl,b9,c9,rfl,rfl⟩
  refine aj F (ae (aM (ai (ah F (ah F ?_)))))
  by_cases yA:iT d (ie d i)=ie d i
  ·have xx:=fun(w1:World) (hI:Inv w [aq b9 c9 3 1 (bS (iT d (ie d i))),aq b c 3 1 (bS (ie d i)),oI b1 25 [(vI d.vars),(vI d.start),(.slice nb d.next.length nc),(.slice fb d.aY.length fc)]] w1)=>(haveI:=et hI;vA w1 b9 b c9 c d.next.length (iT d (ie d i)) (ie d i) (hI.ii (mG 0 F)) (hI.ii (mG 1 F)) (fu d (i+1)) (fu d i) (by omega))
   refine ao F (bl Ls (aX xx) F ?_)
   clear xx
   rintro v O' ⟨N,rfl,rfl,rfl⟩
   rw[ay yA]
   refine ae ?_
   refine bO F ?_
   refine cK ?_
   refine ai (ah F (aj F (aj F (ae (aK (aA ?_))))))
   refine dl (.slice b d.next.length c) (vI 0) Tryz.results81 F F ?_
   have hx:ie d k.toNat=ie d i:=sG yA _ Ul
   exact⟨[aq b c 3 1 (bS (ie d i))],(aC [1] F),_,_,F,by rw[hx]⟩
  have xx:=fun(w1:World) (hI:Inv w [aq b9 c9 3 1 (bS (iT d (ie d i))),aq b c 3 1 (bS (ie d i)),oI b1 25 [(vI d.vars),(vI d.start),(.slice nb d.next.length nc),(.slice fb d.aY.length fc)]] w1)=>(haveI:=et hI;vA w1 b9 b c9 c d.next.length (iT d (ie d i)) (ie d i) (hI.ii (mG 0 F)) (hI.ii (mG 1 F)) (fu d (i+1)) (fu d i) (by omega))
  refine ao F (bl Ls (aX xx) F ?_)
  clear xx
  rintro v O' ⟨N,rfl,rfl,rfl⟩
  rw[ak yA]
  refine ae (a6 F (aE (a7 (ah F (aj F (ae (a7 (ad (lz F F (by omega)) (ah F ?_)))))))))
  refine dX (O':=[aq b9 c9 3 1 (bS (iT d (ie d i))),oI b1 25 [(vI d.vars),(vI d.start),(.slice nb d.next.length nc),(.slice fb d.aY.length fc)]]) (aC [0,1] F) ?_
  refine ae ?_
  exact⟨i+1,by omega,b9,c9,F,by omega,(.of F)⟩
 refine cK ?_
 refine ai (ah F (aj F (aj F (ae (aK (aA ?_))))))
 refine dl (.slice b d.next.length c) (vI 0) Tryz.results81 F F ?_
 have hx:ie d k.toNat=ie d i:=by rw[show k.toNat=i by omega]
 exact⟨[aq b c 3 1 (bS (ie d i))],(aC [0] F),_,_,F,by rw[hx]⟩
theorem E7 (w:World) [dE Tryz.prog w] (d:cU) (nb fb:Option Addr) (nc fc:Nat) (vs:List Value) (h:jt w d nb vs fb) (hb:d.next.length<9223372036854775807) (vY: ∀r∈d.next,r.length<9223372036854775807) (yw:d.aY.length<9223372036854775807) (he:dD d≠0):
  cH Tryz.prog 50 [.agg (fw d nb nc fb fc).toArray] w fun v N=>v=.tuple #[nS,vI (dD d:Int)]∧N=[]:=by
 refine aF func50 F ntmps50 F ?_
 refine ai (ao F (dG (cs:=[(vI d.vars),(vI d.start),(.slice nb d.next.length nc),(.slice fb d.aY.length fc)]) F F (fun b1=>?_)))
 refine aj F (aj F (ae (ai (ad (eu 0 cZ F bL F F F) (ad (a_ cZ F fz F F) (ad (bi 0 e_ F F F F) (ad (cQ e_ F) ?_)))))))
 have FL:=fun(w1:World) (hI:Inv w [oI b1 25 [(vI d.vars),(vI d.start),(.slice nb d.next.length nc),(.slice fb d.aY.length fc)]] w1)=>(haveI:=et hI;Ip w1 d nb fb nc fc vs (hI.BQ h) hb vY yw he d.next.length)
 refine ao F (bl QS (aX FL) F ?_)
 clear FL
 rintro v O' ⟨N,rfl,rfl,rfl⟩
 refine ad (bE (vs:=_) F F) (ad (bE (vs:=_) F F) (aj F (aj F (ae (aK (aA ?_))))))
 refine dl nS (vI (dD d:Int)) Tryz.results50 F F ?_
 exact⟨[],cj (cq _),F,F⟩
theorem Iq (w:World) [dE Tryz.prog w] (d:cU) (nb fb:Option Addr) (nc fc:Nat) (vs:List Value) (h:jt w d nb vs fb) (hv:Valid d) (hn:d.next.length<10000):
  cH Tryz.prog 50 [.agg (fw d nb nc fb fc).toArray] w fun v N=> ∃b c,v=.tuple #[.slice b d.next.length c,vI 0]∧N=[aq b c 3 1 (bS (ie d d.next.length))]:=by
 refine aF func50 F ntmps50 F ?_
 refine ai (ao F (dG (cs:=[(vI d.vars),(vI d.start),(.slice nb d.next.length nc),(.slice fb d.aY.length fc)]) F F (fun b1=>?_)))
 refine aj F (aj F (ae (ai (ad (eu 0 cZ F bL F F F) (ad (a_ cZ F fz F F) (ad (bi 0 e_ F F F F) (ad (cQ e_ F) ?_)))))))
 have FL:=fun(w1:World) (hI:Inv w [oI b1 25 [(vI d.vars),(vI d.start),(.slice nb d.next.length nc),(.slice fb d.aY.length fc)]] w1)=>(haveI:=et hI;L7 w1 d nb fb nc fc vs (hI.BQ h) hv hn d.next.length (by omega))
 refine ao F (bl QS (aX FL) F ?_)
 clear FL
 rintro v O' ⟨N,rfl,b,c,rfl,rfl⟩
 refine ad (bE (vs:=_) F F) (ad (bE (vs:=_) F F) (aj F (aj F (ae (aK (aA ?_))))))
 refine dl (.slice b d.next.length c) (vI 0) Tryz.results50 F F ?_
 exact⟨[aq b c 3 1 (bS (ie d d.next.length))],(aC [0] F),_,_,F,F⟩
end Go.Proofs.YtgdbfideeeegmaaGreatDoor

namespace Go.Proofs.YtgdbfideeeegmaaGreatDoor
open Go.Lx Go.RowKit _root_.Go.Proofs.Tryz
theorem Mx (base:World) [dE Tryz.prog base] (bx m:Nat) (ks:List (List UInt8)) (key:List UInt8) (hk:key∈ks) (hb:ks.length<1000000):
  bW Tryz.prog base 124 [str key,.pointer (aD bx)] [dF bx (.cells #[.map (some m)] 160 (0,0)),dz str (fun n:Nat=>Value.int .i64 (n:Int)) m ks.zipIdx] (fun v O'=>v=vN (ix key (add ks key))∧O'=[dF bx (.cells #[.map (some m)] 160 (0,0)),dz str (fun n:Nat=>Value.int .i64 (n:Int)) m (add ks key).zipIdx]):=by
 refine aF func124 F ntmps124 F ?_
 refine ai (aj F (ae (ai (ad (bi 0 iJ F F F F) (ah F (ad (bK (jK (a:=key) iJ bj (gh.string ve) F F (mG 1 F)) (v':=(.tuple #[vN (ix key ks),.bool true])) (by rw[li];simp[hk])) (ah F (ad (bE (vs:=_) F F) (ad (bE (vs:=_) F F) (aj F (aj F (ae (aM (ai (ah F (ad (jh F) (ae ?_)))))))))))))))))
 refine a6 F (aE (ai (ah F (aj F (ae (aK ?_))))))
 refine aS (vN (ix key ks)) Tryz.results124 F ?_
 have ha:add ks key=ks:=aO hk
 rw[ha];exact⟨F,F⟩
theorem IC (base:World) [dE Tryz.prog base] (bx m:Nat) (ks:List (List UInt8)) (key:List UInt8) (hk:key∉ks) (hb:ks.length<1000000):
  bW Tryz.prog base 124 [str key,.pointer (aD bx)] [dF bx (.cells #[.map (some m)] 160 (0,0)),dz str (fun n:Nat=>Value.int .i64 (n:Int)) m ks.zipIdx] (fun v O'=>v=vN (ix key (add ks key))∧O'=[dF bx (.cells #[.map (some m)] 160 (0,0)),dz str (fun n:Nat=>Value.int .i64 (n:Int)) m (add ks key).zipIdx]):=by
 refine aF func124 F ntmps124 F ?_
 refine ai (aj F (ae (ai (ad (bi 0 iJ F F F F) (ah F (ad (bK (jK (a:=key) iJ bj (gh.string ve) F F (mG 1 F)) (v':=(.tuple #[vI 0,.bool false])) (by rw[li];simp[hk])) (ah F (ad (bE (vs:=_) F F) (ad (bE (vs:=_) F F) (aj F (aj F (ae (aM (ai (ah F (ad (jh F) (ae ?_)))))))))))))))))
 refine bO F ?_
 refine ai (ad (bi 0 iJ F F F F) (ad (bK (qg iJ F (mG 1 F)) (v':=vN ks.length) (by simp)) (aj F (ae (a7 (ad (bi 0 iJ F F F F) (ah F (ah F (ao F (qh (a:=key) (v:=ks.length) 1 iJ (gh.string ve) F F F F (by rw[mW];exact hk) ?_))))))))))
 refine ae (ai (ah F (aj F (ae (aK ?_)))))
 refine aS (vN ks.length) Tryz.results124 F ?_
 have ha:add ks key=ks++[key]:=az hk
 rw[ha]
 refine⟨by rw[fS hk];simp[ix],?_⟩
 rw[show(ks++[key]).zipIdx=ks.zipIdx++[(key,ks.length)] by rw[List.zipIdx_append];simp];rfl
theorem Yb (base:World) [dE Tryz.prog base] (bx m:Nat) (ks:List (List UInt8)) (key:List UInt8) (hb:ks.length<1000000):
  bW Tryz.prog base 124 [str key,.pointer (aD bx)] [dF bx (.cells #[.map (some m)] 160 (0,0)),dz str (fun n:Nat=>Value.int .i64 (n:Int)) m ks.zipIdx] (fun v O'=>v=vN (ix key (add ks key))∧O'=[dF bx (.cells #[.map (some m)] 160 (0,0)),dz str (fun n:Nat=>Value.int .i64 (n:Int)) m (add ks key).zipIdx]):=by
 by_cases hk:key∈ks
 ·exact Mx base bx m ks key hk hb
 ·exact IC base bx m ks key hk hb
theorem My (base:World) [dE Tryz.prog base] (tr:List UInt8→Nat→List UInt8) (L B:Nat) (start:List UInt8) (fv:Value) (J:List (List UInt8)→List Lx.Item→Prop) (Good:List (List UInt8)→Prop) (hL:L≤64) (hB:B≤4096)
  (hn: ∀(ks:List (List UInt8)) (s x:Nat) (O:List Lx.Item),s<ks.length→x<L→Good ks→J ks O→eK Tryz.prog base fv [vI (s:Int),.int .u8 (x:Int)] O (fun v O'=>v=str (tr (ks.getD s []) x)∧Good (add ks (tr (ks.getD s []) x))∧J (add ks (tr (ks.getD s []) x)) O'))
  (hg: ∀ks,Good ks→ks.length≤B) (O:List Lx.Item) (h0:Good [start]) (hJ0:J [start] O):
  bW Tryz.prog base 86 [vI (L:Int),vI (B:Int),str start,fv] O (fun v O'=> ∃b c qs N O1,v=.tuple #[.slice b N c,.bool true]∧O'=aq b c 56 1 (dm qs)::(cd 3 qs++O1)∧J (xu tr L start N) O1∧Good (xu tr L start N)∧(xu tr L start N).length=N∧qD tr L (xu tr L start N) N (nums qs)∧ ∀i,i<N→i<(xu tr L start i).length):=by
 refine aF func86 F ntmps86 F ?_
 refine ai (aj F (aj F (ae ?_)))
 refine T.scope ?_ (fun _ _ _ h=>h)
 refine ai (ao F (lM str (fun n:Nat=>Value.int .i64 (n:Int)) (fun m1=>?_)))
 refine ah F (ao F (fY (a:=start) (v:=(0:Nat)) 0 iJ (gh.string ve) F F F F (by simp) ?_))
 refine ah F (ao F (bs A6 F (fun b2=>?_)))
 refine ao F (bN (vs:=[(.map (some m1))]) 0 A6 F F F F ?_)
 refine ae (ai (ad (eZ) (aj F (ae (aM ?_)))))
 refine T.label ?_
 refine aM (ai (aj F (ae (aU (T.eX 56 1 ?_)))))
 let eP:Lx.Item:=oI b2 160 [(.map (some m1))]
 let gu:Value:=(.pointer (aD b2))
 refine eF (fun(s:Nat) ρ O=> ∃(ks:List (List UInt8)) (qs:List Rec) (ob:Option Addr) (oc:Nat) (O1:List Lx.Item),O=([aq ob oc 56 1 (dm qs),eP,dz str (fun n:Nat=>Value.int .i64 (n:Int)) m1 ks.zipIdx]++(cd 3 qs++O1))∧xu tr L start s=ks∧Good ks∧J ks O1∧qD tr L ks s (nums qs)∧(∀i,i<s→i<(xu tr L start i).length)∧dv [(0,vI (L:Int)),(1,vI (B:Int)),(2,str start),(3,fv),(8,(.slice ob s oc)),(9,.bool false),(10,gu),(11,(.func (.func 124) #[] #[gu])),(12,vI (s:Int))] ρ) (fun s=>B-s) 0 ?_ ?_
 ·exact⟨[start],[],none,0,O,F,F,h0,hJ0,⟨F,by simp,fun i hi=>absurd hi (by omega),fun i hi=>absurd hi (by omega)⟩,fun i hi=>absurd hi (by omega),(.of F)⟩
 rintro s ρ O ⟨ks,qs,ob,oc,O1,rfl,om,hG,hJ,hE,j6,hH⟩
 obtain⟨gF,rfl⟩:=hH.elim
 clear hH
 have hgl:=hg _ hG
 have HF:qs.length=s:=by have:=hE.len;simpa using this
 refine aM (ai (ah F (ad (bi 1 iJ F F F F) (ad (bK (qg iJ F (mG 2 F)) (v':=vI (ks.length:Int)) (by rw[List.length_zipIdx])) (ad (cT F F) (ae (aP F (fun hc=>?_) (fun hc=>?_))))))))
 ·have tf:s<ks.length:=by omega
  refine aE (aM (aU (ai (ah F (ao F (cY (m:=L) cL bj F F (by omega) (by omega) (fun b3=>?_)))))))
  refine aj F (ae (aM (ai (ah F (ad (cQ cL F) (ah F (ae (aU ?_))))))))
  refine eF (fun(x:Nat) ρ O=> ∃(fj:List (List UInt8)) (ys:List Int) (O2:List Lx.Item),O=([aq (aD b3) L 3 1 (ints ys),aq ob oc 56 1 (dm qs),eP,dz str (fun n:Nat=>Value.int .i64 (n:Int)) m1 fj.zipIdx]++(cd 3 qs++O2))∧x≤L∧ys.length=L∧Good fj∧J fj O2∧fj=((List.range x).map (tr (ks.getD s []))).foldl add ks∧(∀i,i<x→ys[i]? =some ((ix (tr (ks.getD s []) i) fj:Nat):Int))∧dv [(0,vI (L:Int)),(1,vI (B:Int)),(2,str start),(3,fv),(8,(.slice ob s oc)),(9,.bool false),(10,gu),(11,(.func (.func 124) #[] #[gu])),(12,vI (s:Int)),(13,(.slice (aD b3) L L)),(28,vI (L:Int)),(29,vI (x:Int))] ρ) (fun x=>L-x) 0 ?_ ?_
  ·exact⟨ks,List.replicate L 0,O1,by simp,bn _,by simp,hG,hJ,F,fun i hi=>absurd hi (by omega),(.of F)⟩
  rintro x ρ O ⟨fj,ys,O2,rfl,hx,Cz,G0,UA,pQ,yH,hH⟩
  obtain⟨gF,rfl⟩:=hH.elim
  clear hH
  have ae6:=hg _ G0
  have uw:ks<+:fj:=pQ▸gH _ _
  have sk:fj.getD s []=ks.getD s []:=me uw tf
  have Wf:=uw.length_le
  refine ai (ad (cT F F) (ae (aM (aP F (fun hc=>?_) (fun hc=>?_)))))
  ·have iP:x<L:=by omega
   refine aE (aM (aU (ai (ah F (aj F (ae (ai (ah F (ah F (ah F (ah F (ah F (ah F (ad (fX dP fA F (show IntKind.u8.wrap (x:Int)=(x:Int) by unfold IntKind.wrap;simp[IntKind.bits,IntKind.signed];omega)) ?_))))))))))))))
   let gC:Lx.Item:=aq (aD b3) L 3 1 (ints ys)
   have Yc:=eK.under (B:=[gC,aq ob oc 56 1 (dm qs),eP,dz str (fun n:Nat=>Value.int .i64 (n:Int)) m1 fj.zipIdx]++cd 3 qs) (O:=([gC,aq ob oc 56 1 (dm qs),eP,dz str (fun n:Nat=>Value.int .i64 (n:Int)) m1 fj.zipIdx]++(cd 3 qs++O2))) (hn fj s x O2 (by omega) iP G0 UA) (gW [])
   refine ao F (eN Yc F F ?_)
   clear Yc
   rintro v O' ⟨O3,rfl,rfl,hG3,hJ3⟩
   refine dX (O':=([gC,aq ob oc 56 1 (dm qs),eP,dz str (fun n:Nat=>Value.int .i64 (n:Int)) m1 fj.zipIdx]++(cd 3 qs++O3))) (gW []) ?_
   rw[sk]at hG3 hJ3⊢
   have oE:=cP (first:=[]) (args:=[str (tr (ks.getD s []) x)]) (gr:=[gu]) Ty (bW.under (B:=[gC,aq ob oc 56 1 (dm qs)]++(cd 3 qs++O3)) (O:=([gC,aq ob oc 56 1 (dm qs),eP,dz str (fun n:Nat=>Value.int .i64 (n:Int)) m1 fj.zipIdx]++(cd 3 qs++O3))) (Yb base b2 m1 fj (tr (ks.getD s []) x) (by have:=hg _ G0;omega)) (kF [2,2,0,0] [gC,aq ob oc 56 1 (dm qs),eP,dz str (fun n:Nat=>Value.int .i64 (n:Int)) m1 fj.zipIdx] (cd 3 qs++O3) F F))
   refine ao F (eN oE F F ?_)
   clear oE
   rintro v O' ⟨A1,rfl,rfl,rfl⟩
   refine dX (O':=([gC,aq ob oc 56 1 (dm qs),eP,dz str (fun n:Nat=>Value.int .i64 (n:Int)) m1 ((add fj (tr (ks.getD s []) x)).zipIdx)]++(cd 3 qs++O3))) (kF [2,2,0,0] [eP,dz str (fun n:Nat=>Value.int .i64 (n:Int)) m1 ((add fj (tr (ks.getD s []) x)).zipIdx),gC,aq ob oc 56 1 (dm qs)] (cd 3 qs++O3) F F) ?_
   refine ad (dU (i:=x) cL bj F F (dR (mG 0 F))) (ao F (ol (j:=x) (v:=vN (ix (tr (ks.getD s []) x) (add fj (tr (ks.getD s []) x)))) (vs:=[(vN (ix (tr (ks.getD s []) x) (add fj (tr (ks.getD s []) x))))]) (cs:=ints ys) 0 bj F F F F F (by simp) F (by first|(simp;omega)|(simp_all;omega)) ?_))
   refine dX (O':=([aq (aD b3) L 3 1 (ints (ys.set x ((ix (tr (ks.getD s []) x) (add fj (tr (ks.getD s []) x)):Nat):Int))),aq ob oc 56 1 (dm qs),eP,dz str (fun n:Nat=>Value.int .i64 (n:Int)) m1 ((add fj (tr (ks.getD s []) x)).zipIdx)]++(cd 3 qs++O3))) (by rw[show fh (ints ys) x [(vN (ix (tr (ks.getD s []) x) (add fj (tr (ks.getD s []) x))))]=ints (ys.set x ((ix (tr (ks.getD s []) x) (add fj (tr (ks.getD s []) x)):Nat):Int))from by simp[fh]];exact cj (aZ _)) ?_
   refine ae (ai (ad (bi 2 iJ F F F F) (ad (bK (qg iJ F (mG 3 F)) (v':=vI ((add fj (tr (ks.getD s []) x)).length:Int)) (by rw[List.length_zipIdx])) (ah F (ad (iy F F) (ae (aP F (fun hc=>?_) (fun hc=>?_))))))))
   ·exact absurd hc (by have:=hg _ hG3;omega)
   have Xq: ¬(add fj (tr (ks.getD s []) x)).length>B:=by omega
   refine aE (a7 (ad (lz F F (by omega)) (ah F (ae ?_))))
   have Er: ∀y,y<x→tr (ks.getD s []) y∈fj:=fun y hy=>by rw[pQ,eC];exact .inr (List.mem_map_of_mem (List.mem_range.2 hy))
   refine⟨x+1,by omega,add fj (tr (ks.getD s []) x),ys.set x ((ix (tr (ks.getD s []) x) (add fj (tr (ks.getD s []) x)):Nat):Int),O3,F,by omega,by simp[Cz],hG3,hJ3,by rw[ja,←pQ],fun i hi=>?_,(.of F)⟩
   by_cases e:i=x
   ·subst e;rw[List.getElem?_set_self (by omega)]
   ·rw[List.getElem?_set_ne (fun h=>e h.symm),yH i (by omega),ig (jM _ _) (Er i (by omega))]
  have FH: ¬x<L:=by omega
  refine cK ?_
  refine a7 (ah F (ah F (ao F (cN (v:=(.slice (aD b3) L L)) e_ cV F F F (fun b4=>?_)))))
  refine ao F (cW 2 e_ e_ cV F F F F (by simp[HF]) (by decide) (Src.row (j:=0) F (by simp)) (by simp[fa]) (by omega) (by decide) (by decide) (fun b5 c6=>?_))
  refine aj F (ae ?_)
  refine dx (O':=[aq b5 c6 56 1 (dm (qs++[⟨(aD b3),L,ys⟩])),eP,dz str (fun n:Nat=>Value.int .i64 (n:Int)) m1 fj.zipIdx]++(cd 3 (qs++[⟨(aD b3),L,ys⟩])++O2)) (by
   rw[show dm (qs++[⟨(aD b3),L,ys⟩])=(dm qs)++[(.slice (aD b3) L L)] by simp[Rec.val,Cz]]
   exact Sub.v7 [aq (aD b4) 1 56 1 [(.slice (aD b3) L L)]] (by intro a;simp only[List.set_cons_zero,List.set_cons_succ,cd,bm,cJ,fQ,Rec.sQ,pe,oh,Fy,vI,nS,aD,cI,dn,aI,c7]<;>omega)) ?_
  refine a7 (ah F (ad (lz F F (by omega)) (aj F (ae ?_))))
  have Kn:x=L:=by omega
  have Er: ∀y,y<L→tr (ks.getD s []) y∈fj:=fun y hy=>by rw[pQ,eC];exact .inr (List.mem_map_of_mem (List.mem_range.2 (by omega)))
  have Sn:ys=lj tr L fj s:=by
   apply List.ext_getElem?
   intro i
   by_cases hi:i<L
   ·rw[yH i (by omega)];simp only[lj,sk];simp[hi]
   ·rw[bZ (by omega),bZ (by simp[lj];omega)]
  have RW:qD tr L fj (s+1) (nums (qs++[⟨(aD b3),L,ys⟩])):=by
   have:=hE.snoc uw tf Sn (by rw[sk];exact Er)
   simpa[nums]using this
  have abe: ∀i,i<s+1→i<(xu tr L start i).length:=fun i hi=>by
   by_cases e:i=s
   ·subst e;rw[om];exact tf
   ·exact j6 i (by omega)
  exact⟨s+1,by omega,fj,qs++[⟨(aD b3),L,ys⟩],b5,c6,O2,F,by rw[xu,om,pQ,Kn],G0,UA,RW,abe,(.of F)⟩
 have zr: ¬s<ks.length:=by omega
 refine cK ?_
 refine ai (ah F (ad (bi 1 iJ F F F F) (ad (bK (qg iJ F (mG 2 F)) (v':=vI (ks.length:Int)) (by rw[List.length_zipIdx])) (ah F (ad (aB (Jn F F) (ay (by have:=hg _ hG;omega))) (aj F (aj F (ae (aK (aA ?_))))))))))
 refine dl (.slice ob s oc) (.bool true) Tryz.results86 F F ?_
 have hN:ks.length=s:=by have:=hE.le;omega
 exact⟨_,(kF [0] [aq ob oc 56 1 (dm qs),eP,dz str (fun n:Nat=>Value.int .i64 (n:Int)) m1 ks.zipIdx] (cd 3 qs++O1) F F),ob,oc,qs,s,O1,F,F,by rw[om];exact hJ,by rw[om];exact hG,by rw[om];exact hN,by rw[om];exact hE,j6⟩
theorem Yd (base:World) [dE Tryz.prog base] (d:cU) (nb fb:Option Addr) (nc fc:Nat) (vs:List Value) (h:jt base d nb vs fb) (hv:Valid d) (hn:d.next.length<10000) (b1 b2 b3:Nat) (os:List Nat) (sn:List Bool) (ob sb:Option Addr) (oc sc M1 s x:Nat) (hs:s<os.length) (hx:x<2^d.vars.toNat) (Io: ∀o∈os,o<d.next.length) (lJ:os.Nodup) (MT:sn.length=d.next.length) (rM: ∀t,t<d.next.length→sn[t]? =some (decide (t∈os))):
  bW Tryz.prog base 84 ([vI (s:Int),.int .u8 (x:Int)]++[.pointer (aD b1),.pointer (aD b2),.pointer (aD b3)])
   [oI b1 25 [(vI d.vars),(vI d.start),(.slice nb d.next.length nc),(.slice fb d.aY.length fc)],oI b2 56 [(.slice ob os.length oc)],aq ob oc 3 1 (bS os),oI b3 23 [(.slice sb d.next.length sc)],aq sb M1 4 1 (cG sn)]
   (fun v O'=>v=str (Lib.decDigits (fm d os[s] x))∧ ∃wv ww Ye,Ye.length=d.next.length∧(∀t,t<d.next.length→Ye[t]? =some (decide (t∈add os (fm d os[s] x))))∧O'=[oI b1 25 [(vI d.vars),(vI d.start),(.slice nb d.next.length nc),(.slice fb d.aY.length fc)],oI b2 56 [(.slice wv ((add os (fm d os[s] x)).length) ww)],aq wv ww 3 1 (bS (add os (fm d os[s] x))),oI b3 23 [(.slice sb d.next.length sc)],aq sb M1 4 1 (cG Ye)]):=by
 refine aF func84 F ntmps84 F ?_
 obtain⟨o,M0⟩: ∃o,os[s]=o:=⟨_,F⟩
 have abf:os[s]? =some o:=by rw[ap hs,M0]
 have ho:o<d.next.length:=M0▸Io _ (aQ hs)
 obtain⟨t,ht⟩: ∃t,fm d o x=t:=⟨_,F⟩
 obtain⟨YZ,_,hxr,hdx⟩:=hv.gY ho hx
 rw[ht]at YZ hdx
 rw[M0,ht]
 have Nk:=h.rows.1
 have hw:=hv.width
 obtain⟨vb,vc,g1,s1⟩:=h.rows.get ho
 have ZW:(ints d.next[o])[x]? =some (vN t):=by rw[gL hxr,hdx]
 have SS:=eT lJ Io
 have yA:=rM t YZ
 have Oc:t<sn.length:=by omega
 refine ai (aj F (ae (aM ?_)))
 refine fD [(0,0),(1,0),(2,0),(3,0),(4,0),(5,0),(6,0),(7,0),(8,0),(9,0),(10,0),(11,0)] ?_
 refine au F (a_ cZ F fz F F) (au F (bi 0 e_ F F F F) (au F (bi 1 cL F F F F) (au F (aN F) ?_)))
 refine au F (dU (i:=s) cL bj F F (dR (mG 2 F)) hs (by rw[ar];exact hs)) (au F (de dP F F (dR (mG 2 F)) (show(bS os)[s]? =some (vN o) by rw[bq,abf];rfl)) (au F (dU (i:=o) e_ cV F F (aL h.outer) ho) (au F (de cL F F (aL h.outer) g1) ?_)))
 refine au F (aN F) (au F (dU (i:=x) cL bj F F (aL s1) hxr (by rw[ar];exact hxr)) (au F (de dP F F (aL s1) ZW) (au F (cx F) ?_)))
 refine cw ?_
 refine aM (ai ?_)
 refine ad (bi 3 eB F F F F) (ah F (ad (dU (i:=t) eB fx F F (dR (mG 4 F)) YZ (by rw[ar];exact Oc)) (ad (de AG F F (dR (mG 4 F)) (show(cG sn)[t]? =some (.bool (decide (t∈os))) by rw[bq,yA];rfl)) ?_)))
 refine ad (jh F) (ae (aP (p:=t∉os) (ax Value.bool (by simp)) (fun hc=>?_) (fun hc=>?_)))
 ·let iG:Lx.Item:=oI b1 25 [(vI d.vars),(vI d.start),(.slice nb d.next.length nc),(.slice fb d.aY.length fc)]
  refine r8 [iG,oI b3 23 [(.slice sb d.next.length sc)],aq sb M1 4 1 (cG sn)] [oI b2 56 [(.slice ob os.length oc)]] [(0,0),(1,0),(2,3),(3,0),(4,1),(5,1),(6,4),(7,0),(8,2)] mixed (by kernel_rfl) (aC [0,2,2] F) (aC [1] F) (fun _ _ _ _ h=>h) ?_
  refine au F (bi 1 eB F F F F) (au F (aN F) ?_)
  refine dJ F (bi 0 cL F F F F) ?_
  refine au F (aN F) ?_
  refine r5 F F (cN (v:=vN t) cL bj F F F (fun z1=>⟨aC [1,3,3] F,aC [2] F,?_⟩))
  refine r5 F F (cW 3 cL cL bj F F F F (by simp) (by decide) (Src.row (j:=0) F (by simp)) (by simp[fa]) (by omega) (by decide) (by decide) (fun z2 tx=>⟨aC [1,3,3] F,aC [2] F,?_⟩))
  refine wS F F (bN (vs:=[(.slice z2 (os.length+1) tx)]) 2 cV F F F F ⟨aC [1,3,3] F,?_⟩)
  refine au F (dU (i:=t) eB fx F F (dR (mG 2 F)) YZ (by rw[ar];exact Oc)) ?_
  refine b_ F F (ol (j:=t) (v:=.bool true) (vs:=[(.bool true)]) (cs:=cG sn) 5 fx F F F F F (by simp) F (by first|(simp;omega)|(simp_all;omega)) ?_)
  let gK:List Lx.Item:=[aq (aD z1) 1 3 1 [vN t],oI b1 25 [(vI d.vars),(vI d.start),(.slice nb d.next.length nc),(.slice fb d.aY.length fc)],oI b2 56 [(.slice z2 (os.length+1) tx)],aq z2 tx 3 1 ((bS os)++[vN t]),oI b3 23 [(.slice sb d.next.length sc)],aq sb M1 4 1 (cG (sn.set t true))]
  refine e7 (O':=gK) (by rw[show fh (cG sn) t [(.bool true)]=cG (sn.set t true)from by simp[fh]];exact cj (aZ _)) ?_
  refine cw ?_
  refine ai (ah F ?_)
  have xn:=fun(w1:World) (hI:Inv base gK w1)=>(haveI:=et hI;Mz w1 t (by omega))
  refine ao F (bl Lr (aX xn) F ?_)
  clear xn
  rintro v O' ⟨N,rfl,rfl,rfl⟩
  refine aj F (ae (aK (aA ?_)))
  refine aS (str (Lib.decDigits t)) Tryz.results84 F ?_
  have ha:add os t=os++[t]:=az hc
  refine⟨[iG,oI b2 56 [(.slice z2 (os.length+1) tx)],aq z2 tx 3 1 ((bS os)++[vN t]),oI b3 23 [(.slice sb d.next.length sc)],aq sb M1 4 1 (cG (sn.set t true))],(aC [1,1,1,1,1] F),F,z2,tx,sn.set t true,by simp[MT],fun t2 Up=>?_,?_⟩
  ·rw[ha]
   by_cases e:t2=t
   ·subst e;rw[List.getElem?_set_self Oc];simp
   ·rw[List.getElem?_set_ne (fun h=>e h.symm),rM t2 Up];simp[e]
  ·rw[ha,aw,show bS (os++[t])=bS os++[vN t]from bm];rfl
 refine aE (ai (ah F ?_))
 let lw:List Lx.Item:=[oI b1 25 [(vI d.vars),(vI d.start),(.slice nb d.next.length nc),(.slice fb d.aY.length fc)],oI b2 56 [(.slice ob os.length oc)],aq ob oc 3 1 (bS os),oI b3 23 [(.slice sb d.next.length sc)],aq sb M1 4 1 (cG sn)]
 have xn:=fun(w1:World) (hI:Inv base lw w1)=>(haveI:=et hI;Mz w1 t (by omega))
 refine ao F (bl Lr (aX xn) F ?_)
 clear xn
 rintro v O' ⟨N,rfl,rfl,rfl⟩
 refine aj F (ae (aK (aA ?_)))
 refine aS (str (Lib.decDigits t)) Tryz.results84 F ?_
 have ha:add os t=os:=aO (Classical.not_not.1 hc)
 refine⟨lw,(aC [0,0,0,0,0] F),F,ob,oc,sn,MT,fun t2 Up=>?_,?_⟩
 ·rw[ha];exact rM t2 Up
 ·rw[ha]
def T9 (d:cU) (nb fb:Option Addr) (nc fc b1 bB bC bD:Nat) (ks:List (List UInt8)) (O:List Lx.Item):Prop:=
 ∃(os:List Nat) (sn:List Bool) (ob:Option Addr) (oc:Nat),ks=os.map Lib.decDigits∧O=[dF b1 (.cells (List.toArray [(vI d.vars),(vI d.start),(.slice nb d.next.length nc),(.slice fb d.aY.length fc)]) 25 (0,0)),dF bC (.cells (List.toArray [(.slice ob os.length oc)]) 56 (0,0)),aq ob oc 3 1 (bS os),dF bD (.cells (List.toArray [(.slice (aD bB) d.next.length d.next.length)]) 23 (0,0)),aq (aD bB) d.next.length 4 1 (cG sn)]∧os.Nodup∧(∀o∈os,o<d.next.length)∧sn.length=d.next.length∧(∀t,t<d.next.length→sn[t]? =some (decide (t∈os)))
set_option maxRecDepth 20000 in
theorem Yf (base:World) [dE Tryz.prog base] (d:cU) (nb fb:Option Addr) (nc fc:Nat) (vs:List Value) (h:jt base d nb vs fb) (hv:Valid d) (hn:d.next.length<10000) (b1 bB bC bD:Nat) (ks:List (List UInt8)) (s x:Nat) (O:List Lx.Item) (hs:s<ks.length) (hx:x<2^d.vars.toNat) (hJ:T9 d nb fb nc fc b1 bB bC bD ks O):
  eK Tryz.prog base (.func (.func 84) #[] #[.pointer (aD b1),.pointer (aD bC),.pointer (aD bD)]) [vI (s:Int),.int .u8 (x:Int)] O
   (fun v O'=>v=str (DR d (ks.getD s []) x)∧(add ks (DR d (ks.getD s []) x)).length≤d.next.length∧T9 d nb fb nc fc b1 bB bC bD (add ks (DR d (ks.getD s []) x)) O'):=by
 obtain⟨os,sn,ob,oc,rfl,rfl,lJ,Io,MT,rM⟩:=hJ
 have Rt:s<os.length:=by simpa using hs
 have e:(os.map Lib.decDigits).getD s []=Lib.decDigits os[s]:=by simp[Rt]
 have e2:DR d ((os.map Lib.decDigits).getD s []) x=Lib.decDigits (fm d os[s] x):=by rw[e,DR,uT]
 have hT:=(hv.gY (Io _ (aQ Rt)) hx).1
 have Yg: ∀o∈add os (fm d os[s] x),o<d.next.length:=fun o ho=>by
  rcases rv.1 ho with ho|ho
  ·exact Io o ho
  ·rw[ho];exact hT
 refine eK.mono (cP (first:=[]) (gr:=[.pointer (aD b1),.pointer (aD bC),.pointer (aD bD)]) XF (Yd base d nb fb nc fc vs h hv hn b1 bC bD os sn ob (aD bB) oc d.next.length d.next.length s x Rt hx Io lJ MT rM)) ?_
 rintro v O' ⟨rfl,wv,ww,Ye,h1,h2,rfl⟩
 rw[e2,←GY pg]
 refine⟨F,?_,add os (fm d os[s] x),Ye,wv,ww,F,F,mT lJ,Yg,h1,h2⟩
 rw[ar];exact eT (mT lJ) Yg
end Go.Proofs.YtgdbfideeeegmaaGreatDoor


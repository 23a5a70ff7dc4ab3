/- Contracts of functions of the program, and what they answer. Conditions: those each theorem names. -/
import Derived.Test.YtgdbfideeeegmaaGreatDoorA2
import Derived.Test.YtgdbfideeeegmaaGreatDoorA1
import Derived.Shelf.Strconv.Itoa3
import Derived.Test.YtgdbfideeeegmaaGreatDoorProg
import Derived.Test.YtgdbfideeeegmaaGreatDoorA0
set_option linter.unusedSectionVars false
set_option linter.unusedSimpArgs false
set_option linter.unusedVariables false
set_option linter.unnecessarySimpa false
set_option maxHeartbeats 8000000
set_option maxRecDepth 20000
namespace Go.Proofs.YtgdbfideeeegmaaGreatDoor
open Go.Lx Go.RowKit _root_.Go.Proofs.Tryz
theorem IW (w:World) (v:Int) (h0:0≤v) (h6:v≤6):cA Tryz.prog 31 [vI v] w fun x N=>x=vN (2^v.toNat)∧N=[]:=by
 refine aG func31 F ntmps31 F ?_
 refine ai (aj F (ae (ai (ah F (ad (fS underlying3 underlying101 F (show IntKind.u64.wrap v=v by unfold IntKind.wrap;simp[IntKind.bits,IntKind.signed];omega)) (ad (nL (v:=v.toNat) F (by show Value.int _ v=_;rw[dn h0]) (by omega)) (aj F (ae (aN ?_)))))))))
 refine aT (vN (2^v.toNat)) Tryz.results31 F ?_
 exact⟨F,F⟩
theorem G6 (w:World) (b:Option Addr) (c:Nat) (xs:List Int) (h:Sl w b (ints xs)) (h0:0<xs.length) (hb:xs.length<9223372036854775807):cA Tryz.prog 121 [.slice b xs.length c] w fun v N=>(∃m,v=vI m∧m∈xs∧ ∀x∈xs,m≤x)∧N=[]:=by
 refine aG func121 F ntmps121 F ?_
 refine ai (aj F (ae (aO (ai (ah F (ad (cP underlying56 F) (ad (cR F F) (ae (aP F (fun hc=>?_) (fun hc=>?_))))))))))
 ·exact absurd hc (by omega)
 have YJ: ¬xs.length<1:=by omega
 refine aE (ai (ah F (ad (dZ (i:=0) underlying56 bl F F (aJ h)) (ad (c_ underlying3 F F (aJ h) gI) (aj F (ae (aO (ai (aj F (ae (aU ?_)))))))))))
 refine et (fun(k:Nat) ρ O=> ∃(m:Int),O=[]∧1≤k∧k≤xs.length∧m∈xs.take k∧(∀x∈xs.take k,m≤x)∧dt [(0,(.slice b xs.length c)),(2,vI 0),(3,vI m),(4,vI (k:Int))] ρ) (fun k=>xs.length-k) 1 ?_ ?_
 ·refine⟨xs[0],F,a8 _,h0,?_,?_,⟨F,F,F,F,trivial⟩⟩
  ·show xs[0]∈xs.take (0+1)
   rw[aH h0];simp
  ·show∀x∈xs.take (0+1),_
   rw[aH h0];simp
 rintro k ρ O ⟨m,rfl,hk1,hk,hm,lQ,hH⟩
 obtain⟨gP,rfl⟩:=hH.elim
 clear hH
 refine aO (ai (ah F (ah F (ad (cP underlying56 F) (ad (cR F F) (ae (aP F (fun hc=>?_) (fun hc=>?_))))))))
 ·have pY:k<xs.length:=by omega
  refine aE (aO (aU (be (ah F (ah F (ah F (ad (dZ (i:=k) underlying56 bl F F (aJ h)) (ad (c_ underlying3 F F (aJ h) gI) (ad (Un F F) (aj F (ae (be (ah F (ad (kp F F (by omega)) (aj F (ae ?_))))))))))))))))
  refine⟨k+1,by omega,if xs[k]<m then xs[k]else m,F,by omega,by omega,?_,?_,⟨F,F,F,F,trivial⟩⟩
  ·rw[aH pY];split
   ·exact am _ (List.mem_singleton.2 F)
   ·exact aQ _ hm
  ·rw[aH pY]
   intro x hx
   rcases List.mem_append.1 hx with hx|hx
   ·have:=lQ x hx;split<;>omega
   ·rw[db]at hx;subst hx;split<;>omega
 have O9: ¬k<xs.length:=by omega
 refine cG ?_
 refine ai (ah F (aj F (ae (aN ?_))))
 refine aT (vI m) Tryz.results121 F ?_
 rw[bt (by omega)]at hm lQ
 exact⟨⟨m,F,hm,lQ⟩,F⟩
theorem G7 (w:World) (b:Option Addr) (c:Nat) (xs:List Int) (h:Sl w b (ints xs)) (h0:0<xs.length) (hb:xs.length<9223372036854775807):cA Tryz.prog 122 [.slice b xs.length c] w fun v N=>(∃m,v=vI m∧m∈xs∧ ∀x∈xs,x≤m)∧N=[]:=by
 refine aG func122 F ntmps122 F ?_
 refine ai (aj F (ae (aO (ai (ah F (ad (cP underlying56 F) (ad (cR F F) (ae (aP F (fun hc=>?_) (fun hc=>?_))))))))))
 ·exact absurd hc (by omega)
 have YJ: ¬xs.length<1:=by omega
 refine aE (ai (ah F (ad (dZ (i:=0) underlying56 bl F F (aJ h)) (ad (c_ underlying3 F F (aJ h) gI) (aj F (ae (aO (ai (aj F (ae (aU ?_)))))))))))
 refine et (fun(k:Nat) ρ O=> ∃(m:Int),O=[]∧1≤k∧k≤xs.length∧m∈xs.take k∧(∀x∈xs.take k,x≤m)∧dt [(0,(.slice b xs.length c)),(2,vI 0),(3,vI m),(4,vI (k:Int))] ρ) (fun k=>xs.length-k) 1 ?_ ?_
 ·refine⟨xs[0],F,a8 _,h0,?_,?_,⟨F,F,F,F,trivial⟩⟩
  ·show xs[0]∈xs.take (0+1)
   rw[aH h0];simp
  ·show∀x∈xs.take (0+1),_
   rw[aH h0];simp
 rintro k ρ O ⟨m,rfl,hk1,hk,hm,lQ,hH⟩
 obtain⟨gP,rfl⟩:=hH.elim
 clear hH
 refine aO (ai (ah F (ah F (ad (cP underlying56 F) (ad (cR F F) (ae (aP F (fun hc=>?_) (fun hc=>?_))))))))
 ·have pY:k<xs.length:=by omega
  refine aE (aO (aU (be (ah F (ah F (ah F (ad (dZ (i:=k) underlying56 bl F F (aJ h)) (ad (c_ underlying3 F F (aJ h) gI) (ad (Uo F F) (aj F (ae (be (ah F (ad (kp F F (by omega)) (aj F (ae ?_))))))))))))))))
  refine⟨k+1,by omega,if xs[k]>m then xs[k]else m,F,by omega,by omega,?_,?_,⟨F,F,F,F,trivial⟩⟩
  ·rw[aH pY];split
   ·exact am _ (List.mem_singleton.2 F)
   ·exact aQ _ hm
  ·rw[aH pY]
   intro x hx
   rcases List.mem_append.1 hx with hx|hx
   ·have:=lQ x hx;split<;>omega
   ·rw[db]at hx;subst hx;split<;>omega
 have O9: ¬k<xs.length:=by omega
 refine cG ?_
 refine ai (ah F (aj F (ae (aN ?_))))
 refine aT (vI m) Tryz.results122 F ?_
 rw[bt (by omega)]at hm lQ
 exact⟨⟨m,F,hm,lQ⟩,F⟩
theorem iY (w:World) (d:cM) (nb fb:Option Addr) (nc fc:Nat) (vs:List Value) (h:ii w d nb vs fb) (hb:d.next.length<9223372036854775807) (qV: ∀r∈d.next,r.length<9223372036854775807) (rP:d.aV.length<9223372036854775807):
  cA Tryz.prog 83 [.agg (eG d nb nc fb fc).toArray] w fun v N=>v=vI (cX d:Int)∧N=[]:=by
 refine aG func83 F ntmps83 F ?_
 have IX:=h.rows.1
 let gr:Value:=(.slice nb d.next.length nc)
 refine ai (ao F (dE (cs:=[(vI d.vars),(vI d.start),gr,(.slice fb d.aV.length fc)]) F F (fun b1=>?_)))
 refine aj F (ae (ai (ad (bj underlying25 F fa F F) (ad (bn 0 underlying22 F F F F) (ad (cP underlying22 F) (aj F (ae (aO (aU (ai (ad (bj underlying25 F bl F F) (ad (bn 0 underlying3 F F F F) ?_))))))))))))
 by_cases MV:d.vars<0
 ·refine ad (aA (cR F F) (av MV)) ?_
  refine ah F (aS F F (aS F F (aS F F (ad (cg F F) (aj F (ae ?_))))))
  refine bW F ?_
  refine ai (aj F (ae (aN (az ?_))))
  refine aT (vI 7) Tryz.results83 F ?_
  refine⟨[],cj (cm _),ax (fun z:Nat=>Value.int .i64 (z:Int)) (show 7=cX d from Eq.symm ?_),F⟩
  unfold cX
  rw[aR (by omega)]
 refine ad (aA (cR F F) (ak MV)) (ah F (aB F F (bj underlying25 F bl F F) (aB F F (bn 0 underlying3 F F F F) ?_)))
 by_cases QH:6<d.vars
 ·refine aB F F (aA (gH F F) (av QH)) ?_
  refine ad (b_ F F) (aj F (ae ?_))
  refine bW F ?_
  refine ai (aj F (ae (aN (az ?_))))
  refine aT (vI 7) Tryz.results83 F ?_
  refine⟨[],cj (cm _),ax (fun z:Nat=>Value.int .i64 (z:Int)) (show 7=cX d from Eq.symm ?_),F⟩
  unfold cX
  rw[aR (by omega)]
 refine aB F F (aA (gH F F) (ak QH)) (ad (b_ F F) (aj F (ae (a_ F (ai (ah F (ad (bM F F) (aj F (ae (aP F (fun hc=>?_) (fun hc=>?_)))))))))))
 ·have O_:d.next.length=0:=by omega
  refine ai (aj F (ae (aN (az ?_))))
  refine aT (vI 3) Tryz.results83 F ?_
  refine⟨[],cj (cm _),ax (fun z:Nat=>Value.int .i64 (z:Int)) (show 3=cX d from Eq.symm ?_),F⟩
  unfold cX
  rw[ay (by simp;omega),aR O_]
 have yX: ¬d.next.length=0:=by omega
 refine ai (ah F (ad (gH F F) (aj F (ae (aP F (fun hc=>?_) (fun hc=>?_))))))
 ·have uU:d.next.length>4096:=by omega
  refine ai (aj F (ae (aN (az ?_))))
  refine aT (vI 4) Tryz.results83 F ?_
  refine⟨[],cj (cm _),ax (fun z:Nat=>Value.int .i64 (z:Int)) (show 4=cX d from Eq.symm ?_),F⟩
  unfold cX
  rw[ay (by simp;omega),ay yX,aR uU]
 have wN: ¬d.next.length>4096:=by omega
 refine ai (ad (bj underlying25 F dy F F) (ad (bn 0 underlying23 F F F F) (ad (cP underlying23 F) (ah F (ad (dP F F) (aj F (ae (aP F (fun hc=>?_) (fun hc=>?_)))))))))
 ·have li:d.aV.length≠d.next.length:=by omega
  refine ai (aj F (ae (aN (az ?_))))
  refine aT (vI 2) Tryz.results83 F ?_
  refine⟨[],cj (cm _),ax (fun z:Nat=>Value.int .i64 (z:Int)) (show 2=cX d from Eq.symm ?_),F⟩
  unfold cX
  rw[ay (by simp;omega),ay yX,ay wN,aR li]
 have Bt: ¬d.aV.length≠d.next.length:=by omega
 refine ai (ad (bj underlying25 F bl F F) (ad (bn 0 underlying3 F F F F) ?_))
 by_cases Ae:d.start<0
 ·refine ad (aA (cR F F) (av Ae)) ?_
  refine ah F (aS F F (aS F F (aS F F (aS F F (ad (cg F F) (aj F (ae ?_)))))))
  refine bW F ?_
  refine ai (aj F (ae (aN (az ?_))))
  refine aT (vI 8) Tryz.results83 F ?_
  refine⟨[],cj (cm _),ax (fun z:Nat=>Value.int .i64 (z:Int)) (show 8=cX d from Eq.symm ?_),F⟩
  unfold cX
  rw[ay (by simp;omega),ay yX,ay wN,ay (by simpa using Bt),aR (by omega)]
 refine ad (aA (cR F F) (ak Ae)) (ah F (aB F F (bj underlying25 F bl F F) (aB F F (bn 0 underlying3 F F F F) (aB F F (aK F) ?_))))
 by_cases Pb:(d.next.length:Int)≤d.start
 ·refine aB F F (aA (lR F F) (av Pb)) ?_
  refine ad (b_ F F) (aj F (ae ?_))
  refine bW F ?_
  refine ai (aj F (ae (aN (az ?_))))
  refine aT (vI 8) Tryz.results83 F ?_
  refine⟨[],cj (cm _),ax (fun z:Nat=>Value.int .i64 (z:Int)) (show 8=cX d from Eq.symm ?_),F⟩
  unfold cX
  rw[ay (by simp;omega),ay yX,ay wN,ay (by simpa using Bt),aR (by omega)]
 refine aB F F (aA (lR F F) (ak Pb)) (ad (b_ F F) (aj F (ae (a_ F (aE (aO (ai (ad (bj underlying25 F fa F F) (ad (bn 0 underlying22 F F F F) (ad (cP underlying22 F) (ah F (ae (aU ?_)))))))))))))
 let eJ:Lx.Item:=oI b1 25 [(vI d.vars),(vI d.start),(.slice nb d.next.length nc),(.slice fb d.aV.length fc)]
 refine et (fun(k:Nat) ρ O=>O=[eJ]∧k≤d.next.length∧sO (2^d.vars.toNat) d.next.length (d.next.drop k)=cX d∧dt [(0,(.agg #[(vI d.vars),(vI d.start),gr,(.slice fb d.aV.length fc)])),(1,(.pointer (aD b1))),(3,vI (d.next.length:Int)),(9,.bool false),(18,.bool (decide ((d.next.length:Int)=0))),(21,.bool (decide ((d.next.length:Int)>4096))),(24,.bool (decide ((d.aV.length:Int)≠(d.next.length:Int)))),(30,.bool false),(41,gr),(42,vI (d.next.length:Int)),(43,vI (k:Int))] ρ) (fun k=>d.next.length-k) 0 ?_ ?_
 ·refine⟨F,bs _,?_,(.of F)⟩
  unfold cX
  rw[ay (by simp;omega),ay yX,ay wN,ay (by simpa using Bt),ay (by omega)];rfl
 rintro k ρ O ⟨rfl,hk,hr,hH⟩
 obtain⟨gP,rfl⟩:=hH.elim
 clear hH
 refine ai (ad (cR F F) (ae (aO (aP F (fun hc=>?_) (fun hc=>?_)))))
 ·have lS:k<d.next.length:=by omega
  obtain⟨X0,X1,g1,s1⟩:=h.rows.get lS
  have Dw:=qV _ (aL lS)
  refine aE (aO (aU (ai (ad (dZ (i:=k) underlying22 cU F F (aJ h.outer)) (ad (c_ underlying56 F F (aJ h.outer) g1) (aj F (ae (aO (ai (ah F (ad (cP underlying56 F) (ad (bj underlying25 F bl F F) (ad (bn 0 underlying3 F F F F) (ad (nL (v:=d.vars.toNat) F (by show Value.int _ d.vars=_;rw[dn (by omega)]) (by omega)) (ad (dP F F) (ae (aP F (fun hc=>?_) (fun hc=>?_))))))))))))))))))
  ·have Pc:d.next[k].length≠2^d.vars.toNat:=by omega
   refine ai (aj F (ae (aN (az ?_))))
   refine aT (vI 2) Tryz.results83 F ?_
   refine⟨[],cj (cm _),ax (fun z:Nat=>Value.int .i64 (z:Int)) (show 2=cX d from Eq.symm ?_),F⟩
   rw[←hr,sP lS,aR Pc]
  have Ff: ¬d.next[k].length≠2^d.vars.toNat:=by omega
  have Pd:0<d.next[k].length:=by
   have:=Nat.pow_pos (n:=d.vars.toNat) (show 0<2 by omega)
   omega
  refine aE (ai (ah F ?_))
  have IY:=fun(w1:World) (hI:Inv w [eJ] w1)=>G6 w1 X0 X1 d.next[k] (hI.sl s1) Pd Dw
  refine ao F (bm QI (aX IY) F ?_)
  clear IY
  rintro v O' ⟨N,rfl,⟨m1,rfl,hm1,Up⟩,rfl⟩
  by_cases TQ:m1<0
  ·refine ad (aA (cR F F) (av TQ)) ?_
   refine ah F (aS F F (aS F F (aS F F (aS F F (ad (cg F F) (ae ?_))))))
   refine bW F ?_
   refine ai (aj F (ae (aN (az ?_))))
   refine aT (vI 8) Tryz.results83 F ?_
   refine⟨[],cj (cm _),ax (fun z:Nat=>Value.int .i64 (z:Int)) (show 8=cX d from Eq.symm ?_),F⟩
   rw[←hr,sP lS,ay (by simpa using Ff),ay ?_]
   intro hh
   simp only[uV,fy,aM,dm]at hh
   have:=hh _ hm1;omega
  refine ad (aA (cR F F) (ak TQ)) (ah F (aB F F (aK F) ?_))
  have IZ:=fun(w1:World) (hI:Inv w [eJ] w1)=>G7 w1 X0 X1 d.next[k] (hI.sl s1) Pd Dw
  refine iv F F F (bm QJ (aX IZ) F ?_)
  clear IZ
  rintro v O' ⟨N,rfl,⟨m2,rfl,Bu,Uq⟩,rfl⟩
  refine aB F F (aK F) ?_
  by_cases he1:(d.next.length:Int)≤m2
  ·refine aB F F (aA (lR F F) (av he1)) ?_
   refine ad (b_ F F) (ae ?_)
   refine bW F ?_
   refine ai (aj F (ae (aN (az ?_))))
   refine aT (vI 8) Tryz.results83 F ?_
   refine⟨[],cj (cm _),ax (fun z:Nat=>Value.int .i64 (z:Int)) (show 8=cX d from Eq.symm ?_),F⟩
   rw[←hr,sP lS,ay (by simpa using Ff),ay ?_]
   intro hh
   simp only[uV,fy,aM,dm]at hh
   have:=hh _ Bu;omega
  refine aB F F (aA (lR F F) (ak he1)) (ad (b_ F F) (ae (a_ F (aE (be (ad (kp F F (by omega)) (ah F (ae ?_))))))))
  refine⟨k+1,by omega,F,by omega,?_,(.of F)⟩
  rw[←hr,sP lS,ay (by simpa using Ff),aR ?_]
  simp only[uV,fy,aM,dm]
  intro x hx
  have:=Up x hx;have:=Uq x hx;omega
 have Pe: ¬k<d.next.length:=by omega
 refine cG ?_
 refine ai (aj F (ae (aN (az ?_))))
 refine aT (vI 0) Tryz.results83 F ?_
 refine⟨[],cj (cm _),ax (fun z:Nat=>Value.int .i64 (z:Int)) (show 0=cX d from Eq.symm ?_),F⟩
 rw[←hr,G8 (by omega)]
end Go.Proofs.YtgdbfideeeegmaaGreatDoor

namespace Go.Proofs
open Go.Shelf
def Tryz.Dq:Go.Shelf.Ren:=⟨fun|283=>214|n=>n,fun|3=>3|9=>9|4=>4|n=>n,fun|n=>n⟩
theorem Tryz.O0:Go.Proofs.Lays.n283 Tryz.prog Tryz.Dq:= {
 mixed:=by kernel_rfl
 f283:=Tryz.func214.trans (ax some (by kernel_rfl))
 t3:=Tryz.underlying3
 a3:=Tryz.isAgg3
 z3:=Tryz.sizeOf3
 v3:=Tryz.zeroValue3
 t4:=Tryz.underlying4
 a4:=Tryz.isAgg4
 z4:=Tryz.sizeOf4
 v4:=Tryz.zeroValue4
 t9:=Tryz.underlying9
 a9:=Tryz.isAgg9
 z9:=Tryz.sizeOf9
 v9:=Tryz.zeroValue9}
open Go.RowKit Go.Sort Go.Lib in
theorem Tryz.internal_strconv_small (i:Nat) (h:i<100) (w:World):
  Calls Tryz.prog 214 #[.int .i64 i] w fun e w'=>e=.returned (.string ⟨(Lib.decDigits i).toArray⟩)∧w'=w:=Any.internal_strconv_small Tryz.O0 i h w
def Tryz.Bb:Go.Shelf.Ren:=⟨fun|284=>215|129=>209|317=>241|318=>242|n=>n,fun|53=>256|3=>3|212=>282|0=>0|4=>4|46=>101|5=>5|9=>9|n=>n,fun|17=>0|n=>n⟩
theorem Tryz.Ml:Go.Proofs.LaysM.n284 Tryz.prog Tryz.Bb:= {
 mixed:=by kernel_rfl
 f129:=Tryz.func209.trans (ax some (by kernel_rfl))
 f284:=Tryz.func215.trans (ax some (by kernel_rfl))
 f317:=Tryz.func241.trans (ax some (by kernel_rfl))
 f318:=Tryz.func242.trans (ax some (by kernel_rfl))
 t0:=Tryz.underlying0
 a0:=Tryz.isAgg0
 z0:=Tryz.sizeOf0
 v0:=Tryz.zeroValue0
 t3:=Tryz.underlying3
 a3:=Tryz.isAgg3
 z3:=Tryz.sizeOf3
 v3:=Tryz.zeroValue3
 t4:=Tryz.underlying4
 a4:=Tryz.isAgg4
 z4:=Tryz.sizeOf4
 v4:=Tryz.zeroValue4
 t5:=Tryz.underlying5
 a5:=Tryz.isAgg5
 z5:=Tryz.sizeOf5
 v5:=Tryz.zeroValue5
 t9:=Tryz.underlying9
 a9:=Tryz.isAgg9
 z9:=Tryz.sizeOf9
 v9:=Tryz.zeroValue9
 t46:=Tryz.underlying101
 a46:=Tryz.isAgg101
 z46:=Tryz.sizeOf101
 v46:=Tryz.zeroValue101
 t53:=Tryz.underlying256
 a53:=Tryz.isAgg256
 z53:=Tryz.sizeOf256
 v53:=Tryz.zeroValue256
 t212:=Tryz.underlying282
 a212:=Tryz.isAgg282
 z212:=Tryz.sizeOf282
 v212:=Tryz.zeroValue282
 g17:=by kernel_rfl
 i0:=by kernel_rfl
 i3:=by kernel_rfl
 i4:=by kernel_rfl
 i5:=by kernel_rfl
 i9:=by kernel_rfl
 i46:=by kernel_rfl
 i53:=by kernel_rfl
 i212:=by kernel_rfl
 m17:=by kernel_rfl}
open Go.RowKit Go.Sort Go.Lib in
theorem Tryz.internal_strconv_numDigits (u:Nat) (h1:1≤u) (h2:u<18446744073709551616) (w:World) (TI:Lib.TabIs Tryz.prog w "internal/strconv.uint64pow10" .u64 Lib.pow10Tab):
  Calls Tryz.prog 215 #[.int .u64 u] w fun e w'=>e=.returned (.int .i64 (Lib.nDigits u))∧w'=w:=Any.internal_strconv_numDigits Tryz.Ml u h1 h2 w TI
def Tryz.Dr:Go.Shelf.Ren:=⟨fun|285=>216|n=>n,fun|37=>43|53=>256|3=>3|4=>4|51=>254|9=>9|5=>5|0=>0|n=>n,fun|n=>n⟩
theorem Tryz.O4:Go.Proofs.Lays.n285 Tryz.prog Tryz.Dr:= {
 mixed:=by kernel_rfl
 f285:=Tryz.func216.trans (ax some (by kernel_rfl))
 t0:=Tryz.underlying0
 a0:=Tryz.isAgg0
 z0:=Tryz.sizeOf0
 v0:=Tryz.zeroValue0
 t3:=Tryz.underlying3
 a3:=Tryz.isAgg3
 z3:=Tryz.sizeOf3
 v3:=Tryz.zeroValue3
 t4:=Tryz.underlying4
 a4:=Tryz.isAgg4
 z4:=Tryz.sizeOf4
 v4:=Tryz.zeroValue4
 t5:=Tryz.underlying5
 a5:=Tryz.isAgg5
 z5:=Tryz.sizeOf5
 v5:=Tryz.zeroValue5
 t9:=Tryz.underlying9
 a9:=Tryz.isAgg9
 z9:=Tryz.sizeOf9
 v9:=Tryz.zeroValue9
 t37:=Tryz.underlying43
 a37:=Tryz.isAgg43
 z37:=Tryz.sizeOf43
 v37:=Tryz.zeroValue43
 t51:=Tryz.underlying254
 a51:=Tryz.isAgg254
 z51:=Tryz.sizeOf254
 v51:=Tryz.zeroValue254
 t53:=Tryz.underlying256
 a53:=Tryz.isAgg256
 z53:=Tryz.sizeOf256
 v53:=Tryz.zeroValue256}
open Go.RowKit Go.Sort Go.Lib in
theorem Tryz.internal_strconv_formatBase10 (ll off cap:Nat) (u:Nat) (d:Array UInt8) (w:World) (hH:Holds (fun(b:UInt8)=>Value.int .u8 (b.toNat:Int)) w ll off d) (hu:u<10^d.size) (aa9:u<18446744073709551616) (sN:d.size<4611686018427387904):
  Calls Tryz.prog 216 #[.slice (some ⟨ll,off,none⟩) d.size cap,.int .u64 u] w fun e w'=>
   e=.returned (.tuple #[])∧ ∃(n v':Nat) (dk:Array UInt8),w'=(putRow (fun(b:UInt8)=>Value.int .u8 (b.toNat:Int)) w ll off dk).drewN n∧FmtInv d.size u 0 v' dk:=Any.internal_strconv_formatBase10 Tryz.O4 ll off cap u d w hH hu aa9 sN
def Tryz.Bc:Go.Shelf.Ren:=⟨fun|171=>85|243=>123|246=>169|283=>214|284=>215|285=>216|286=>217|129=>209|317=>241|318=>242|319=>243|320=>244|337=>258|338=>259|n=>n,fun|3=>3|9=>9|2=>2|4=>4|171=>260|0=>0|53=>256|37=>43|5=>5|173=>262|212=>282|51=>254|20=>20|213=>283|46=>101|232=>297|233=>298|n=>n,fun|17=>0|18=>1|19=>2|n=>n⟩
theorem Tryz.Mm:Go.Proofs.LaysM.n171 Tryz.prog Tryz.Bc:= {
 mixed:=by kernel_rfl
 f129:=Tryz.func209.trans (ax some (by kernel_rfl))
 f171:=Tryz.func85.trans (ax some (by kernel_rfl))
 f243:=Tryz.func123.trans (ax some (by kernel_rfl))
 f246:=Tryz.func169.trans (ax some (by kernel_rfl))
 f283:=Tryz.func214.trans (ax some (by kernel_rfl))
 f284:=Tryz.func215.trans (ax some (by kernel_rfl))
 f285:=Tryz.func216.trans (ax some (by kernel_rfl))
 f286:=Tryz.func217.trans (ax some (by kernel_rfl))
 f317:=Tryz.func241.trans (ax some (by kernel_rfl))
 f318:=Tryz.func242.trans (ax some (by kernel_rfl))
 f319:=Tryz.func243.trans (ax some (by kernel_rfl))
 f320:=Tryz.func244.trans (ax some (by kernel_rfl))
 f337:=Tryz.func258.trans (ax some (by kernel_rfl))
 f338:=Tryz.func259.trans (ax some (by kernel_rfl))
 t0:=Tryz.underlying0
 a0:=Tryz.isAgg0
 z0:=Tryz.sizeOf0
 v0:=Tryz.zeroValue0
 t2:=Tryz.underlying2
 a2:=Tryz.isAgg2
 z2:=Tryz.sizeOf2
 v2:=Tryz.zeroValue2
 t3:=Tryz.underlying3
 a3:=Tryz.isAgg3
 z3:=Tryz.sizeOf3
 v3:=Tryz.zeroValue3
 t4:=Tryz.underlying4
 a4:=Tryz.isAgg4
 z4:=Tryz.sizeOf4
 v4:=Tryz.zeroValue4
 t5:=Tryz.underlying5
 a5:=Tryz.isAgg5
 z5:=Tryz.sizeOf5
 v5:=Tryz.zeroValue5
 t9:=Tryz.underlying9
 a9:=Tryz.isAgg9
 z9:=Tryz.sizeOf9
 v9:=Tryz.zeroValue9
 t20:=Tryz.underlying20
 a20:=Tryz.isAgg20
 z20:=Tryz.sizeOf20
 v20:=Tryz.zeroValue20
 t37:=Tryz.underlying43
 a37:=Tryz.isAgg43
 z37:=Tryz.sizeOf43
 v37:=Tryz.zeroValue43
 t46:=Tryz.underlying101
 a46:=Tryz.isAgg101
 z46:=Tryz.sizeOf101
 v46:=Tryz.zeroValue101
 t51:=Tryz.underlying254
 a51:=Tryz.isAgg254
 z51:=Tryz.sizeOf254
 v51:=Tryz.zeroValue254
 t53:=Tryz.underlying256
 a53:=Tryz.isAgg256
 z53:=Tryz.sizeOf256
 v53:=Tryz.zeroValue256
 t171:=Tryz.underlying260
 a171:=Tryz.isAgg260
 z171:=Tryz.sizeOf260
 v171:=Tryz.zeroValue260
 t173:=Tryz.underlying262
 a173:=Tryz.isAgg262
 z173:=Tryz.sizeOf262
 v173:=Tryz.zeroValue262
 t212:=Tryz.underlying282
 a212:=Tryz.isAgg282
 z212:=Tryz.sizeOf282
 v212:=Tryz.zeroValue282
 t213:=Tryz.underlying283
 a213:=Tryz.isAgg283
 z213:=Tryz.sizeOf283
 t232:=Tryz.underlying297
 a232:=Tryz.isAgg297
 z232:=Tryz.sizeOf297
 v232:=Tryz.zeroValue297
 t233:=Tryz.underlying298
 a233:=Tryz.isAgg298
 z233:=Tryz.sizeOf298
 v233:=Tryz.zeroValue298
 g17:=by kernel_rfl
 g18:=by kernel_rfl
 g19:=by kernel_rfl
 i0:=by kernel_rfl
 i2:=by kernel_rfl
 i3:=by kernel_rfl
 i4:=by kernel_rfl
 i5:=by kernel_rfl
 i9:=by kernel_rfl
 i20:=by kernel_rfl
 i37:=by kernel_rfl
 i46:=by kernel_rfl
 i51:=by kernel_rfl
 i53:=by kernel_rfl
 i171:=by kernel_rfl
 i173:=by kernel_rfl
 i212:=by kernel_rfl
 i232:=by kernel_rfl
 i233:=by kernel_rfl
 m17:=by kernel_rfl
 m18:=by kernel_rfl
 m19:=by kernel_rfl}
open Go.RowKit Go.Sort Go.Lib in
theorem Tryz.strconv_Itoa (n:Int) (h0: -9223372036854775808≤n) (h1:n≤9223372036854775807) (w:World) (TI:Lib.TabIs Tryz.prog w "internal/strconv.uint64pow10" .u64 Lib.pow10Tab):
  Calls Tryz.prog 85 #[.int .i64 n] w fun e w'=>e=.returned (.string ⟨(Lib.itoa n).toArray⟩)∧ ∃k os,w'=grow (w.drewN k) os:=Any.strconv_Itoa Tryz.Mm n h0 h1 w TI
end Go.Proofs

namespace Go.Proofs.YtgdbfideeeegmaaGreatDoor
open Go.Lx Go.RowKit _root_.Go.Proofs.Tryz
theorem TN (w:World) (i:Nat) (h:i<100):cA Tryz.prog 214 [vI (i:Int)] w fun v N=>v=str (Lib.decDigits i)∧N=[]:=fun w1 M hI=>
 (Go.Proofs.Tryz.internal_strconv_small i h w1).mono (by rintro e w' ⟨rfl,rfl⟩;exact⟨_,[],F,hI,F,F⟩)
theorem ndF (w:World) [t:dB Tryz.prog w] (n:Nat) (h1:1≤n) (hn:n<1000000000000):cA Tryz.prog 215 [.int .u64 (n:Int)] w fun v N=>v=vI (Lib.nDigits n:Int)∧N=[]:=fun w1 M hI=>
 (Go.Proofs.Tryz.internal_strconv_numDigits n h1 (by omega) w1 (dB.is (hI.tab (P:=Tryz.prog)))).mono (by rintro e w' ⟨rfl,rfl⟩;exact⟨_,[],F,hI,F,F⟩)
theorem Mo (base:World) [dB Tryz.prog base] (b:Option Addr) (c c' m n:Nat) (l:List UInt8) (hl:l.length=m) (hn:n<1000000000000) (UW:100≤n) (hm:m≤1000000):
  cd Tryz.prog base 231 [.slice b m c,.int .u64 (n:Int),vI 10] [aq b c 5 1 (di l)] (fun v O'=> ∃b' c',v=.slice b' (m+(Lib.decDigits n).length) c'∧ ∃k cs,O'=[dR k (.cells cs 260 (0,0)),aq b' c' 5 1 (di (l++Lib.decDigits n))]):=by
 have h20:Lib.nDigits n≤20:=by have:=Lib.numDigits_eq n (by omega) (by omega);split at this<;>omega
 have Yj:1≤Lib.nDigits n:=by rw[Lib.nDigits_big (by omega)];omega
 refine aG func231 F ntmps231 F ?_
 refine ai (aj F (ae (aO (ai (ah F (ad (bM F F) (ae ?_)))))))
 refine bW F ?_
 refine aO (ai (ah F (ad (cR F F) (ae (a_ (ax Value.bool (ak (show¬(n:Int)<100 by omega))) (aE (ai (ao F (bu SY F (fun bA=>?_))))))))))
 refine ae (ai (ah F (ao F (bm S_ (aX (fun w1 hI=>by haveI:=hI.tab (P:=Tryz.prog);exact ndF w1 n (by omega) hn)) F ?_))))
 rintro v O' ⟨N,rfl,rfl,rfl⟩
 refine aj F (ae (ai (ah F (ad (BK underlying260 dF F F (by omega) Yj) (ah F ?_)))))
 have hk:=(M9 (base:=base) (b:=bA) (T:=260) (n:=n) (fun j hj=>Lib.zeros24_at j hj) (by omega) hn Go.Proofs.Tryz.internal_strconv_formatBase10).under (O:=[dR bA (.cells Lib.zeros24 260 (0,0)),aq b c 5 1 (di l)]) (B:=[aq b c 5 1 (di l)]) (cj (aZ _))
 refine ao F (bm Ta hk F ?_)
 clear hk
 rintro v O' ⟨O1,rfl,rfl,cs,rfl,yx⟩
 refine ae (ai (ah F (ah F (ad (BK underlying260 dF F F (by omega) Yj) (ao F (Ho (new:=di (Lib.decDigits n)) 0 1 underlying43 underlying43 dF F F F F (by simp[di,hl]) (by simp[di,Lib.decDigits_length]) F yx (w3 _) (by omega) (by decide) (by decide) (fun b2 c2=>?_)))))))
 refine aj F (ae (aN ?_))
 refine aT (.slice b2 (m+Lib.nDigits n) c2) Tryz.results231 F ?_
 refine⟨b2,c2,by rw[Lib.decDigits_length],bA,cs,?_⟩
 rw[show di (l++Lib.decDigits n)=di l++di (Lib.decDigits n)from bo];rfl
theorem Cd (base:World) (b:Option Addr) (c c' m n:Nat) (l:List UInt8) (hl:l.length=m) (hn:n<100) (hm:m≤1000000):
  cd Tryz.prog base 231 [.slice b m c,.int .u64 (n:Int),vI 10] [aq b c 5 1 (di l)] (fun v O'=> ∃b' c',v=.slice b' (m+(Lib.decDigits n).length) c'∧O'=[aq b' c' 5 1 (di (l++Lib.decDigits n))]):=by
 refine aG func231 F ntmps231 F ?_
 refine ai (aj F (ae (aO (ai (ah F (ad (bM F F) (ae ?_)))))))
 refine bW F ?_
 refine aO (ai (ah F (ad (cR F F) (ae ?_))))
 refine bW (ax Value.bool (av (show(n:Int)<100 by omega))) ?_
 refine ai (ah F (ah F (ad (fS underlying256 underlying3 F (show IntKind.i64.wrap (n:Int)=(n:Int)from gO (by omega))) ?_)))
 have qw:=fun(w1:World) (hI:Inv base [aq b c 5 1 (di l)] w1)=>TN w1 n hn
 refine ao F (bm S9 (aX qw) F ?_)
 clear qw
 rintro v O' ⟨N,rfl,rfl,rfl⟩
 refine ao F (zh (s:=Lib.decDigits n) 0 underlying43 underlying9 dF F F F F (by simp[hl]) F (by have:=sZ 1 n (by omega);omega) (by decide) (by decide) (fun b2 c2=>?_))
 refine aj F (ae (aN ?_))
 refine aT (.slice b2 (m+(Lib.decDigits n).length) c2) Tryz.results231 F ?_
 exact⟨b2,c2,F,by rw[show di (l++Lib.decDigits n)=di l++di (Lib.decDigits n)from bo];rfl⟩
theorem Mp (base:World) [dB Tryz.prog base] (b:Option Addr) (c c' m n:Nat) (l:List UInt8) (hl:l.length=m) (hn:n<1000000000000) (hm:m≤1000000):
  cd Tryz.prog base 231 [.slice b m c,.int .u64 (n:Int),vI 10] [aq b c 5 1 (di l)] (fun v O'=> ∃b' c',v=.slice b' (m+(Lib.decDigits n).length) c'∧O'=[aq b' c' 5 1 (di (l++Lib.decDigits n))]):=by
 by_cases h:n<100
 ·exact Cd base b c c' m n l hl h hm
 ·exact(Mo base b c c' m n l hl hn (by omega) hm).drop fun v O' ⟨b',c',h1,k,cs,h2⟩=>⟨_,h2▸cj (List.sublist_cons_self _ _),b',c',h1,F⟩
theorem O5 (base:World) [dB Tryz.prog base] (b:Option Addr) (c c' m n:Nat) (l:List UInt8) (hl:l.length=m) (hn:n<1000000000000) (hm:m≤1000000):
  cd Tryz.prog base 210 [.slice b m c,vI (n:Int),vI 10] [aq b c 5 1 (di l)] (fun v O'=> ∃b' c',v=.slice b' (m+(Lib.decDigits n).length) c'∧O'=[aq b' c' 5 1 (di (l++Lib.decDigits n))]):=by
 refine aG func210 F ntmps210 F ?_
 refine ai (aj F (ae (ai (ah F (ad (fS underlying2 underlying256 F (show IntKind.u64.wrap (n:Int)=(n:Int) by unfold IntKind.wrap;simp[IntKind.bits,IntKind.signed];omega)) (aj F (ae (aO (ai (ah F (ad (cR F F) (ae (a_ (ax Value.bool (ak (show¬(n:Int)<0 by omega))) ?_)))))))))))))
 refine aE (ai (ah F (ah F (ah F ?_))))
 have mX:=Mp base b c c' m n l hl hn hm
 refine ao F (bm JU mX F ?_)
 clear mX
 rintro v O' ⟨b2,c2,rfl,rfl⟩
 refine aj F (ae (aN ?_))
 refine aT (.slice b2 (m+(Lib.decDigits n).length) c2) Tryz.results210 F ?_
 exact⟨b2,c2,F,F⟩
theorem RG (base:World) [dB Tryz.prog base] (b:Option Addr) (c c' m n:Nat) (l:List UInt8) (hl:l.length=m) (hn:n<1000000000000) (hm:m≤1000000):
  cd Tryz.prog base 160 [.slice b m c,vI (n:Int),vI 10] [aq b c 5 1 (di l)] (fun v O'=> ∃b' c',v=.slice b' (m+(Lib.decDigits n).length) c'∧O'=[aq b' c' 5 1 (di (l++Lib.decDigits n))]):=by
 refine aG func160 F ntmps160 F ?_
 refine ai (aj F (ae (ai (ah F (ah F (ah F ?_))))))
 have qt:=O5 base b c c' m n l hl hn hm
 refine ao F (bm JV qt F ?_)
 clear qt
 rintro v O' ⟨b2,c2,rfl,rfl⟩
 refine aj F (ae (aN ?_))
 refine aT (.slice b2 (m+(Lib.decDigits n).length) c2) Tryz.results160 F ?_
 exact⟨b2,c2,F,F⟩
theorem L8 (w:World) [dB Tryz.prog w] (n:Nat) (hn:n<1000000000000):cA Tryz.prog 85 [vI (n:Int)] w fun v N=>v=str (Lib.decDigits n)∧N=[]:=fun w1 M hI=>
 (Go.Proofs.Tryz.strconv_Itoa n (by omega) (by omega) w1 (dB.is (hI.tab (P:=Tryz.prog)))).mono (by rintro e w' ⟨rfl,k,os,rfl⟩;exact⟨_,[],F,hI.grow k os,by rw[Lib.itoa_nonneg];rfl,F⟩)
theorem ey {w w1:World} {O:List Lx.Item} [dB Tryz.prog w] (h:Inv w O w1):dB Tryz.prog w1:=Inv.tab (P:=Tryz.prog) h
theorem aW {w:World} {O:List Lx.Item} {f:FuncId} {args:List Value} {R:Value→List Lx.Item→Prop} [dB Tryz.prog w] (h: ∀(w1:World) [dB Tryz.prog w1],cA Tryz.prog f args w1 R):cd Tryz.prog w f args O (fun v O2=> ∃N,O2=N++O∧R v N):=aX fun w1 hI=>haveI:=ey hI;h w1
abbrev uT2:= @underlying2
abbrev dS:= @underlying3
abbrev Bh:= @underlying4
abbrev fF:= @underlying5
abbrev vg:= @underlying9
abbrev eI:= @underlying22
abbrev eu:= @underlying23
abbrev cS:= @underlying25
abbrev ow:= @underlying27
abbrev dJ:= @underlying32
abbrev m_:= @underlying43
abbrev G0:= @underlying55
abbrev cI:= @underlying56
abbrev uk:= @underlying67
abbrev fU:= @underlying69
abbrev cp:= @underlying72
abbrev xn:= @underlying73
abbrev lU:= @underlying75
abbrev vT:= @underlying79
abbrev k_:= @underlying81
abbrev CV:= @underlying96
abbrev vU:= @underlying97
abbrev Px:= @underlying101
abbrev fx:= @underlying112
abbrev gw:= @underlying114
abbrev iw:= @underlying118
abbrev nI:= @underlying120
abbrev lW:= @underlying122
abbrev kQ:= @underlying129
abbrev K2:= @underlying140
abbrev fV:= @underlying149
abbrev s5:= @underlying153
abbrev VQ:= @underlying159
abbrev iE:= @underlying160
abbrev FK:= @underlying163
abbrev CM:= @underlying166
abbrev ju:= @underlying167
abbrev lq:= @underlying169
abbrev j3:= @underlying173
abbrev Xo:= @underlying180
abbrev QD:= @underlying197
abbrev nH:= @underlying208
abbrev PV:= @underlying209
abbrev rK:= @underlying227
abbrev nq:= @underlying234
abbrev l9:= @underlying235
abbrev tQ:= @underlying236
abbrev oK:= @underlying238
abbrev VP:= @underlying244
abbrev VL:= @underlying256
end Go.Proofs.YtgdbfideeeegmaaGreatDoor

namespace Go.Proofs.YtgdbfideeeegmaaGreatDoor
open Go.Lx Go.RowKit _root_.Go.Proofs.Tryz
theorem OF (base:World) [dB Tryz.prog base] (bx m:Nat) (ks:List (List UInt8)) (key:List UInt8) (hk:key∈ks) (hb:ks.length<1000000):
  cd Tryz.prog base 168 [str key,.pointer (aD bx)] [dR bx (.cells #[.map (some m)] 160 (0,0)),dz str (fun n:Nat=>Value.int .i64 (n:Int)) m ks.zipIdx] (fun v O'=>v=vN (ix key (add ks key))∧O'=[dR bx (.cells #[.map (some m)] 160 (0,0)),dz str (fun n:Nat=>Value.int .i64 (n:Int)) m (add ks key).zipIdx]):=by
 refine aG func168 F ntmps168 F ?_
 refine ai (aj F (ae (ai (ad (bn 0 iE F F F F) (ah F (ad (bT (jD (a:=key) iE bl (gB.string vg) F F (mG 1 F)) (v':=(.tuple #[vN (ix key ks),.bool true])) (by rw[kR];simp[hk])) (ah F (ad (bG (vs:=_) F F) (ad (bG (vs:=_) F F) (aj F (aj F (ae (aO (ai (ah F (ad (i_ F) (ae ?_)))))))))))))))))
 refine a_ F (aE (ai (ah F (aj F (ae (aN ?_))))))
 refine aT (vN (ix key ks)) Tryz.results168 F ?_
 have ha:add ks key=ks:=aR hk
 rw[ha];exact⟨F,F⟩
theorem LB (base:World) [dB Tryz.prog base] (bx m:Nat) (ks:List (List UInt8)) (key:List UInt8) (hk:key∉ks) (hb:ks.length<1000000):
  cd Tryz.prog base 168 [str key,.pointer (aD bx)] [dR bx (.cells #[.map (some m)] 160 (0,0)),dz str (fun n:Nat=>Value.int .i64 (n:Int)) m ks.zipIdx] (fun v O'=>v=vN (ix key (add ks key))∧O'=[dR bx (.cells #[.map (some m)] 160 (0,0)),dz str (fun n:Nat=>Value.int .i64 (n:Int)) m (add ks key).zipIdx]):=by
 refine aG func168 F ntmps168 F ?_
 refine ai (aj F (ae (ai (ad (bn 0 iE F F F F) (ah F (ad (bT (jD (a:=key) iE bl (gB.string vg) F F (mG 1 F)) (v':=(.tuple #[vI 0,.bool false])) (by rw[kR];simp[hk])) (ah F (ad (bG (vs:=_) F F) (ad (bG (vs:=_) F F) (aj F (aj F (ae (aO (ai (ah F (ad (i_ F) (ae ?_)))))))))))))))))
 refine bW F ?_
 refine ai (ad (bn 0 iE F F F F) (ad (bT (qd iE F (mG 1 F)) (v':=vN ks.length) (by simp)) (aj F (ae (be (ad (bn 0 iE F F F F) (ah F (ah F (ao F (qf (a:=key) (v:=ks.length) 1 iE (gB.string vg) F F F F (by rw[mN];exact hk) ?_))))))))))
 refine ae (ai (ah F (aj F (ae (aN ?_)))))
 refine aT (vN ks.length) Tryz.results168 F ?_
 have ha:add ks key=ks++[key]:=ay hk
 rw[ha]
 refine⟨by rw[fM hk];simp[ix],?_⟩
 rw[show(ks++[key]).zipIdx=ks.zipIdx++[(key,ks.length)] by rw[List.zipIdx_append];simp];rfl
theorem Z_ (base:World) [dB Tryz.prog base] (bx m:Nat) (ks:List (List UInt8)) (key:List UInt8) (hb:ks.length<1000000):
  cd Tryz.prog base 168 [str key,.pointer (aD bx)] [dR bx (.cells #[.map (some m)] 160 (0,0)),dz str (fun n:Nat=>Value.int .i64 (n:Int)) m ks.zipIdx] (fun v O'=>v=vN (ix key (add ks key))∧O'=[dR bx (.cells #[.map (some m)] 160 (0,0)),dz str (fun n:Nat=>Value.int .i64 (n:Int)) m (add ks key).zipIdx]):=by
 by_cases hk:key∈ks
 ·exact OF base bx m ks key hk hb
 ·exact LB base bx m ks key hk hb
theorem Qw (w:World) [dB Tryz.prog w] (d:cM) (nb fb:Option Addr) (nc fc:Nat):cA Tryz.prog 51 [.agg (eG d nb nc fb fc).toArray] w fun v N=> ∃b,v=.func (.func 82) #[] #[.pointer (aD b)]∧N=[oI b 25 [(vI d.vars),(vI d.start),(.slice nb d.next.length nc),(.slice fb d.aV.length fc)]]:=by
 refine aG func51 F ntmps51 F ?_
 refine ai (ao F (dE (cs:=[(vI d.vars),(vI d.start),(.slice nb d.next.length nc),(.slice fb d.aV.length fc)]) F F (fun b1=>?_)))
 refine aj F (ae (ai (ad (e8) (aj F (ae (aN ?_))))))
 refine aT (.func (.func 82) #[] #[(.pointer (aD b1))]) Tryz.results51 F ?_
 exact⟨b1,F,F⟩
theorem Qy (base:World) [dB Tryz.prog base] (d:cM) (nb fb:Option Addr) (nc fc:Nat) (vs:List Value) (h:ii base d nb vs fb) (hb:d.next.length<9223372036854775807) (bx:Nat) (yv:Value) (J:Nat→List Lx.Item→Prop) (Q:List Lx.Item→Prop)
  (hy: ∀k (hk:k<d.next.length) (vb:Option Addr) (vc:Nat) (O:List Lx.Item),vs[k]? =some (.slice vb d.next[k].length vc)→Sl base vb (ints d.next[k])→J k O→
   eK Tryz.prog base yv [vI (k:Int),.slice vb d.next[k].length vc] O (fun v O'=>(v=.bool true∧J (k+1) O')∨(v=.bool false∧Q O')))
  (O:List Lx.Item) (h0:J 0 O):cd Tryz.prog base 82 [yv,.pointer (aD bx)] (oI bx 25 [(vI d.vars),(vI d.start),(.slice nb d.next.length nc),(.slice fb d.aV.length fc)]::O) (fun _ O'=>J d.next.length O'∨Q O'):=by
 refine aG func82 F ntmps82 F ?_
 have IX:=h.rows.1
 refine ai (ad (bj cS F fa F F) (ad (bn 0 eI F F F F) (ad (cP eI F) (ah F (ae (aU ?_))))))
 let eJ:List Lx.Item:=[oI bx 25 [(vI d.vars),(vI d.start),(.slice nb d.next.length nc),(.slice fb d.aV.length fc)]]
 refine et (fun(k:Nat) ρ O=> ∃(O1:List Lx.Item),O=(eJ++O1)∧k≤d.next.length∧J k O1∧dt [(0,yv),(1,(.pointer (aD bx))),(6,(.slice nb d.next.length nc)),(7,vI (d.next.length:Int)),(8,vI (k:Int))] ρ) (fun k=>d.next.length-k) 0 ?_ ?_
 ·exact⟨O,F,bs _,h0,(.of F)⟩
 rintro k ρ O ⟨O1,rfl,hk,hJ,hH⟩
 obtain⟨gP,rfl⟩:=hH.elim
 clear hH
 refine ai (ad (cR F F) (ae (aO (aP F (fun hc=>?_) (fun hc=>?_)))))
 ·have ki:k<d.next.length:=by omega
  obtain⟨vb,vc,g1,s1⟩:=h.rows.get ki
  refine aE (aO (aU (ai (ah F (ad (dZ (i:=k) eI cU F F (aJ h.outer)) (ad (c_ cI F F (aJ h.outer) g1) (aj F (aj F (ae (ai (ah F (ah F (ah F ?_)))))))))))))
  have qw:=eK.under (B:=eJ) (O:=(eJ++O1)) (hy k ki vb vc O1 g1 s1 hJ) (gS [])
  refine ao F (fh qw F F ?_)
  clear qw
  rintro v O' ⟨O2,rfl,⟨rfl,T_⟩|⟨rfl,hQ2⟩⟩
  ·refine ad (i_ F) ?_
   refine ae (a_ F (aE ?_))
   refine dv (O':=oI bx 25 [(vI d.vars),(vI d.start),(.slice nb d.next.length nc),(.slice fb d.aV.length fc)]::O2) (gS []) ?_
   refine be (ad (kp F F (by omega)) (ah F (ae ?_)))
   exact⟨k+1,by omega,O2,F,by omega,T_,(.of F)⟩
  refine ad (i_ F) (ae ?_)
  refine bW F ?_
  refine aN (az ?_)
  refine ru.zero Tryz.results82 ?_
  exact⟨O2,gS eJ,.inr hQ2⟩
 have JX: ¬k<d.next.length:=by omega
 refine cG ?_
 refine az ?_
 refine ru.zero Tryz.results82 ?_
 have T7:k=d.next.length:=by omega
 subst T7
 exact⟨O1,gS eJ,.inl hJ⟩
theorem OG (w:World) [dB Tryz.prog w] (d:cM) (nb fb:Option Addr) (nc fc:Nat) (vs:List Value) (h:ii w d nb vs fb) (hv:Valid d) (cb:Option Addr) (cc:Nat) (cs:List Nat) (yx:Sl w cb (bU cs)) (n3:cs.length=d.next.length) (DA: ∀x∈cs,x<10000):
  cA Tryz.prog 119 [.agg (eG d nb nc fb fc).toArray,.slice cb d.next.length cc] w fun v N=> ∃b c,v=.slice b d.next.length c∧N=[aq b c 3 1 (bU (iP d cs))]:=by
 refine aG func119 F ntmps119 F ?_
 have hb:d.next.length<9223372036854775807:=by have:=hv.n4;omega
 have IX:=h.rows.1
 have Y8:=hv.n4
 let oQ:Value:=(.slice fb d.aV.length fc)
 let k7:Value:=(.slice nb d.next.length nc)
 refine ai (ao F (dE (cs:=[(vI d.vars),(vI d.start),k7,oQ]) F F (fun b1=>?_)))
 refine ao F (dE (cs:=[(.slice cb d.next.length cc)]) F F (fun b2=>?_))
 refine aj F (ae (ai (ao F (lz str (fun n:Nat=>Value.int .i64 (n:Int)) (fun m3=>?_)))))
 refine ao F (bu AR F (fun b4=>?_))
 refine ao F (bV (vs:=[(.map (some m3))]) 0 AR F F F F ?_)
 refine ae (ai (ad (e8) (ao F (bu K7 F (fun b5=>?_)))))
 refine ao F (bV (vs:=[(.func (.func 168) #[] #[(.pointer (aD b4))])]) 0 K7 F F F F ?_)
 refine ae (ai (ad (bn 3 cI F F F F) (ad (cP cI F) (ao F (cW (m:=d.next.length) cI bl F F (by omega) (by omega) (fun b6=>?_))))))
 refine ao F (bu cU F (fun b7=>?_))
 refine ao F (bV (vs:=[(.slice (aD b6) d.next.length d.next.length)]) 0 cU F F F F ?_)
 refine ae (aO (ai (ad (ew 6 cS F bK F F F) ?_)))
 let gd:Lx.Item:=oI b5 180 [(.func (.func 168) #[] #[(.pointer (aD b4))])]
 let gG:Lx.Item:=oI b7 56 [(.slice (aD b6) d.next.length d.next.length)]
 let jw:Lx.Item:=oI b4 160 [(.map (some m3))]
 have qp:=fun(w1:World) (hI:Inv w [gG,aq (aD b6) d.next.length 3 1 (List.replicate d.next.length (vI 0)),gd,jw,dz str (fun n:Nat=>Value.int .i64 (n:Int)) m3 [],oI b2 56 [(.slice cb d.next.length cc)],oI b1 25 [(vI d.vars),(vI d.start),(.slice nb d.next.length nc),(.slice fb d.aV.length fc)]] w1)=>(haveI:=ey hI;Qw w1 d nb fb nc fc)
 refine ao F (bm Qp (aX qp) F ?_)
 clear qp
 rintro v O' ⟨N,rfl,bR,rfl,rfl⟩
 refine ae (aU ?_)
 refine T.rangeFunc (first:=[]) (gv:=[(.pointer (aD bR))]) F Qr (fun yl yq Tk=>?_)
 let gr:Lx.Item:=oI b1 25 [(vI d.vars),(vI d.start),(.slice nb d.next.length nc),(.slice fb d.aV.length fc)]
 let k8:Lx.Item:=oI b2 56 [(.slice cb d.next.length cc)]
 refine cd.mono (cd.sub (O':=oI bR 25 [(vI d.vars),(vI d.start),k7,oQ]::(dR yl (lp yq none)::[gG,aq (aD b6) d.next.length 3 1 (List.replicate d.next.length (vI 0)),gd,jw,dz str (fun n:Nat=>Value.int .i64 (n:Int)) m3 [],k8,gr])) (aC [1,0,0,0,0,0,0,0,0] F) (Qy w d nb fb nc fc vs h hb bR (.func (.yield yl) #[] #[]) (fun k O=> ∃(xs:List Nat) (ks:List (List UInt8)),O=dR yl (lp yq none)::[gG,aq (aD b6) d.next.length 3 1 (bU xs),gd,jw,dz str (fun n:Nat=>Value.int .i64 (n:Int)) m3 ks.zipIdx,k8,gr]∧k≤d.next.length∧xs.length=d.next.length∧ks=dd ((iX d cs).take k)∧(∀s,s<k→xs[s]? =some (ix (xZ d cs s) ks))) (fun _=>False) ?_ _ ?_)) ?_
 ·intro k gn vb vc O g1 s1 hJ
  obtain⟨xs,ks,rfl,hk,DQ,n8,lQ⟩:=hJ
  refine eK.yield Tk F F ?_
  have Xn:k<cs.length:=by omega
  have pM:d.next[k].length=2^d.vars.toNat:=hv.len _ (aL gn)
  have Dw:d.next[k].length≤64:=by
   rw[pM];have:=hv.v6;have:=hv.v0
   exact bE (bO (by omega) (show d.vars.toNat≤6 by omega)) (by decide)
  have aab:ks.length<1000000:=by
   have h1:=uH ((iX d cs).take k)
   have h2:((iX d cs).take k).length≤d.next.length:=by rw[cw];simp[iX];omega
   rw[n8];omega
  have vo: ∀j (hj:j<d.next[k].length),0≤d.next[k][j]∧d.next[k][j].toNat<cs.length:=fun j hj=>by have:=hv.ok _ (aL gn) _ (aL hj);omega
  have Ua:cs[k]<10000:=DA _ (aL Xn)
  have J7: ∀x∈fW cs d.next[k],x<10000:=OH DA
  refine ai (aj F (ae (be (aj F (ae (aU (aO (T.eY 5 1 ?_))))))))
  refine be (ad (bn 6 cI F F F F) (ah F (ad (dZ (i:=k) cI bl F F (aJ yx)) (ad (c_ dS F F (aJ yx) ij) ?_))))
  let iB:Lx.Item:=aq (aD b6) d.next.length 3 1 (bU xs)
  have LC:=cd.under (B:=[gG,iB,gd,jw,dz str (fun n:Nat=>Value.int .i64 (n:Int)) m3 ks.zipIdx,k8,gr]) (O:=[aq none 0 5 1 (di []),gG,iB,gd,jw,dz str (fun n:Nat=>Value.int .i64 (n:Int)) m3 ks.zipIdx,k8,gr]) (RG w none 0 0 0 cs[k] [] F (Nat.lt_trans Ua (by decide)) (by omega)) (aC [0,0,0,0,0,0,0,0] F)
  refine ao F (bm Az LC F ?_)
  clear LC
  rintro v O' ⟨A1,rfl,kb,kc,rfl,rfl⟩
  refine aj F (ae (aO (ai (ah F (ad (cP cI F) (ah F (ae (aU ?_))))))))
  refine et (fun(j:Nat) ρ O=> ∃(kb:Option Addr) (kc m:Nat),O=[aq kb kc 5 1 (di (iT cs[k] (List.take j (fW cs d.next[k])))),gG,iB,gd,jw,dz str (fun n:Nat=>Value.int .i64 (n:Int)) m3 ks.zipIdx,k8,gr]∧j≤d.next[k].length∧m=(iT cs[k] (List.take j (fW cs d.next[k]))).length∧dt [(0,(.agg #[(vI d.vars),(vI d.start),k7,oQ])),(1,(.slice cb d.next.length cc)),(2,(.pointer (aD b1))),(3,(.pointer (aD b2))),(4,nS),(5,(.pointer (aD b4))),(6,(.pointer (aD b5))),(7,(.pointer (aD b7))),(8,vI (k:Int)),(9,(.slice vb d.next[k].length vc)),(10,(.slice kb m kc)),(27,(.slice vb d.next[k].length vc)),(28,vI (d.next[k].length:Int)),(29,vI (j:Int))] ρ) (fun j=>d.next[k].length-j) 0 ?_ ?_
  ·refine⟨kb,kc,_,?_,bs _,?_,(.of F)⟩
   ·rw[show iT cs[k] (List.take 0 (fW cs d.next[k]))=[]++Lib.decDigits cs[k] by simp[iT,jt]]
    rfl
   ·simp[iT,jt]
  rintro j ρ O ⟨kb,kc,m,rfl,hj,hm,hH⟩
  obtain⟨gP,rfl⟩:=hH.elim
  clear hH
  have hm9:m≤324:=by
   have:=LD Ua (fun x hx=>J7 x (List.mem_of_mem_take hx): ∀x∈List.take j (fW cs d.next[k]),x<10000)
   rw[cw]at this;omega
  refine ai (ad (cR F F) (ae (aO (aP F (fun hc=>?_) (fun hc=>?_)))))
  ·have iL:j<d.next[k].length:=by omega
   have htj:=(vo j iL).2
   refine aE (aO (aU (ai (ad (dZ (i:=j) cI bl F F (aJ s1)) (ad (c_ dS F F (aJ s1) gI) (aj F (ae ?_)))))))
   refine T.ds [k8] [(0,0),(3,0),(4,0),(5,0),(6,0),(1,1),(2,1),(7,2),(8,2)] (aC [6] F) ?_
   refine au F (aK F) (au F (bn 0 cI F F F F) (au F (aK F) (au F (Fq (i:=d.next[k][j]) cI bl F F (aJ yx) (vo j iL).1 (n3▸(vo j iL).2) (by rw[ar];exact(vo j iL).2)) (au F (c_ dS F F (aJ yx) (ij (vo j iL).2)) ?_))))
   refine cx F F (cO (v:=.int .u8 32) m_ dF F F F (fun b8=>⟨aC [7] F,?_⟩))
   refine cx F F (dh 1 m_ m_ dF F F F F (by rw[ar,←hm,Nat.mul_one]) (by decide) (Src.row (j:=0) F (by simp)) (by simp[fu]) (by omega) (by decide) (by decide) (fun b9 c10=>⟨aC [7] F,?_⟩))
   have ox:=cd.under (B:=[aq (aD b8) 1 5 1 [.int .u8 32],gG,iB,gd,jw,dz str (fun n:Nat=>Value.int .i64 (n:Int)) m3 ks.zipIdx,k8,gr]) (O:=[aq (aD b8) 1 5 1 [.int .u8 32],aq b9 c10 5 1 ((di (iT cs[k] (List.take j (fW cs d.next[k]))))++[.int .u8 32]),gG,iB,gd,jw,dz str (fun n:Nat=>Value.int .i64 (n:Int)) m3 ks.zipIdx,k8,gr]) (RG w b9 c10 c10 (m+1) cs[d.next[k][j].toNat] (iT cs[k] (List.take j (fW cs d.next[k]))++[32]) (by rw[aF,←hm];rfl) (Nat.lt_trans (DA _ (aL (vo j iL).2)) (by decide)) (by omega)) (by rw[Da];exact(aC [1,0,0,0,0,0,0,0,0] F))
   refine cu F F (bm Az ox F ?_)
   clear ox
   rintro v O' ⟨A1,rfl,kb3,kc3,rfl,rfl⟩
   refine eW (O':=[aq kb3 kc3 5 1 (di (iT cs[k] (List.take j (fW cs d.next[k]))++[32]++Lib.decDigits cs[d.next[k][j].toNat])),gG,iB,gd,jw,dz str (fun n:Nat=>Value.int .i64 (n:Int)) m3 ks.zipIdx,k8,gr]) (aC [0,1,1,1,1,1,1,1] F) ?_
   refine cu F F (eO F F (cq F) ?_)
   refine cy ?_
   refine be (ad (kp F F (by omega)) (ah F (ae ?_)))
   have yB:=LF (a:=cs[k]) iL (vo j iL).2
   refine⟨j+1,by omega,kb3,kc3,_,by rw[yB],by omega,?_,(.of F)⟩
   rw[yB,aF,aF,←hm];rfl
  have Fy: ¬j<d.next[k].length:=by omega
  refine cG ?_
  have hjf:j=d.next[k].length:=by omega
  have Qz:List.take j (fW cs d.next[k])=fW cs d.next[k]:=bt (by simp[fW];omega)
  have hKE:xZ d cs k=iT cs[k] (fW cs d.next[k]):=OI gn Xn
  let s9:Lx.Item:=aq kb kc 5 1 (di (iT cs[k] (List.take j (fW cs d.next[k]))))
  refine T.ds [s9,gG,iB,gd,jw,k8,gr] [(0,0),(1,0),(2,0),(3,0),(4,0),(5,1),(6,0),(7,2)] (aC [0,0,0,0,0,1,1] F) ?_
  refine au F (bn 1 cI F F F F) (au F (aK F) (au F (bn 3 Xo F F F F) (au F (aK F) (au F (BG (l:=iT cs[k] (List.take j (fW cs d.next[k]))) m_ vg fF F (mG 0 F) hm.symm) ?_))))
  have Xp:=cQ (first:=[]) (args:=[str (iT cs[k] (List.take j (fW cs d.next[k])))]) (gv:=[(.pointer (aD b4))]) S8 (cd.under (B:=[s9,gG,iB,gd,k8,gr]) (O:=[s9,gG,iB,gd,jw,dz str (fun n:Nat=>Value.int .i64 (n:Int)) m3 ks.zipIdx,k8,gr]) (Z_ w b4 m3 ks (iT cs[k] (List.take j (fW cs d.next[k]))) aab) (aC [4,4,0,0,0,0,0,0] F))
  refine cx F F (fh Xp F F ?_)
  clear Xp
  rintro v O' ⟨A1,rfl,rfl,rfl⟩
  refine⟨aC [2,2,2,2,0,1,1] F,?_⟩
  refine eW (O':=[s9,gG,iB,gd,jw,dz str (fun n:Nat=>Value.int .i64 (n:Int)) m3 ((add ks (iT cs[k] (List.take j (fW cs d.next[k])))).zipIdx),k8,gr]) (aC [2,2,2,2,0,0,0,0] F) ?_
  refine au F (dZ (i:=k) cI bl F F (dX (mG 2 F))) ?_
  refine cu F F (n7 (j:=k) (v:=vI ((ix (iT cs[k] (List.take j (fW cs d.next[k]))) (add ks (iT cs[k] (List.take j (fW cs d.next[k])))):Nat):Int)) (vs:=[(vI ((ix (iT cs[k] (List.take j (fW cs d.next[k]))) (add ks (iT cs[k] (List.take j (fW cs d.next[k])))):Nat):Int))]) (cs:=bU xs) 2 bl F F F F F (by simp) F (by first|(simp;omega)|(simp_all;omega)) ?_)
  let ul:Lx.Item:=aq (aD b6) d.next.length 3 1 (bU (xs.set k (ix (iT cs[k] (List.take j (fW cs d.next[k]))) (add ks (iT cs[k] (List.take j (fW cs d.next[k])))))))
  refine eW (O':=[s9,gG,ul,gd,jw,dz str (fun n:Nat=>Value.int .i64 (n:Int)) m3 ((add ks (iT cs[k] (List.take j (fW cs d.next[k])))).zipIdx),k8,gr]) (by rw[show fe (bU xs) k [(vI ((ix (iT cs[k] (List.take j (fW cs d.next[k]))) (add ks (iT cs[k] (List.take j (fW cs d.next[k])))):Nat):Int))]=bU (xs.set k (ix (iT cs[k] (List.take j (fW cs d.next[k]))) (add ks (iT cs[k] (List.take j (fW cs d.next[k]))))))from by simp[fe]];exact cj (aZ _)) ?_
  refine eW (O':=[gG,ul,gd,jw,dz str (fun n:Nat=>Value.int .i64 (n:Int)) m3 ((add ks (iT cs[k] (List.take j (fW cs d.next[k])))).zipIdx),k8,gr]) (aC [1,1,1,1,1,1,1] F) ?_
  refine cy ?_
  refine .inl ⟨F,xs.set k (ix (iT cs[k] (List.take j (fW cs d.next[k]))) (add ks (iT cs[k] (List.take j (fW cs d.next[k]))))),add ks (iT cs[k] (List.take j (fW cs d.next[k]))),F,by omega,by simp[DQ],?_,?_⟩
  ·rw[EY gn,AZ,←n8,hKE,Qz]
  ·intro s hs
   by_cases e:s=k
   ·subst e;rw[List.getElem?_set_self (by omega),hKE,Qz]
   ·rw[List.getElem?_set_ne (fun h=>e h.symm),lQ s (by omega)]
    refine ax some (ig (jE _ _) ?_).symm
    rw[n8];exact jT.2 (LG (by omega) (by omega))
 ·refine⟨List.replicate d.next.length 0,[],?_,bs _,by simp,by simp[dd],fun s hs=>absurd hs (by omega)⟩
  simp
 rintro v O' (⟨xs,ks,rfl,hk,DQ,n8,lQ⟩|hF)
 rotate_left
 ·exact hF.elim
 refine⟨none,_,F,?_⟩
 refine ai (ad (bn 0 cI F F F F) (aj F (ae (aN (az ?_)))))
 refine aT (.slice (aD b6) d.next.length d.next.length) Tryz.results119 F ?_
 have hx:xs=iP d cs:=by
  apply List.ext_getElem?
  intro s
  by_cases hs:s<d.next.length
  ·rw[lQ s hs,n8,bt (by simp[iX])];simp[iP,iX,hs]
  ·rw[bQ (by omega),bQ (by simp[iP,iX];omega)]
 exact⟨[aq (aD b6) d.next.length 3 1 (bU xs)],(aC [1] F),_,_,F,by rw[hx]⟩
theorem Tl (w:World) [dB Tryz.prog w] (d:cM) (nb fb:Option Addr) (nc fc:Nat) (vs:List Value) (h:ii w d nb vs fb) (hv:Valid d):
  cA Tryz.prog 118 [.agg (eG d nb nc fb fc).toArray] w fun v N=> ∃b c,v=.slice b d.next.length c∧N=[aq b c 3 1 (bU (mi d))]:=by
 refine aG func118 F ntmps118 F ?_
 have Y8:=hv.n4
 have Q2:=hv.n0
 have qY:=hv.fin
 refine ai (ao F (dE (cs:=[(vI d.vars),(vI d.start),(.slice nb d.next.length nc),(.slice fb d.aV.length fc)]) F F (fun b1=>?_)))
 refine aj F (ae (ai (ad (bj cS F fa F F) (ad (bn 0 eI F F F F) (ad (cP eI F) (ao F (cW (m:=d.next.length) cI bl F F (by omega) (by omega) (fun b2=>?_))))))))
 refine aj F (ae (aO (ai (ah F (ad (cP cI F) (ah F (ae (aU ?_))))))))
 refine et (fun(k:Nat) ρ O=> ∃(xs:List Nat),O=[aq (aD b2) d.next.length 3 1 (bU xs),oI b1 25 [(vI d.vars),(vI d.start),(.slice nb d.next.length nc),(.slice fb d.aV.length fc)]]∧k≤d.next.length∧xs.length=d.next.length∧(∀s,s<k→xs[s]? =some (if d.aV.getD s false≠d.aV.getD 0 false then 1 else 0))∧(∀s,k≤s→s<d.next.length→xs[s]? =some 0)∧dt [(0,(.agg #[(vI d.vars),(vI d.start),(.slice nb d.next.length nc),(.slice fb d.aV.length fc)])),(1,(.pointer (aD b1))),(2,nS),(3,(.slice (aD b2) d.next.length d.next.length)),(10,vI (d.next.length:Int)),(11,vI (k:Int))] ρ) (fun k=>d.next.length-k) 0 ?_ ?_
 ·refine⟨List.replicate d.next.length 0,by simp,bs _,by simp,fun s hs=>absurd hs (by omega),fun s _ hs=>by simp[hs],(.of F)⟩
 rintro k ρ O ⟨xs,rfl,hk,DQ,LH,LI,hH⟩
 obtain⟨gP,rfl⟩:=hH.elim
 clear hH
 refine ai (ad (cR F F) (ae (aO (aP F (fun hc=>?_) (fun hc=>?_)))))
 ·have Ci:k<d.next.length:=by omega
  have Tm:k<d.aV.length:=by omega
  have h0f:0<d.aV.length:=by omega
  have hkx:k<xs.length:=by omega
  refine aE (aO (aU (ai (ah F (aj F (ae (aO ?_)))))))
  refine T.ds [oI b1 25 [(vI d.vars),(vI d.start),(.slice nb d.next.length nc),(.slice fb d.aV.length fc)]] [(0,0),(1,0),(2,0),(3,0),(4,0),(5,0),(6,0),(7,0),(8,0),(9,0)] (aC [1] F) ?_
  refine au F (bj cS F dy F F) (au F (bn 0 eu F F F F) (au F (aK F) (au F (dZ (i:=k) eu fw F F (aJ h.aV)) (au F (c_ Bh F F (aJ h.aV) iy) (au F (bj cS F dy F F) (au F (bn 0 eu F F F F) (au F (dZ (i:=0) eu fw F F (aJ h.aV)) (au F (c_ Bh F F (aJ h.aV) iy) (au F (I8 Bh F F) ?_)))))))))
  refine cy ?_
  refine aP (p:= ¬d.aV[k]=d.aV[0]) (ax Value.bool (by cases d.aV[k]<;>cases d.aV[0]<;>rfl)) (fun hc=>?_) (fun hc=>?_)
  ·refine be ?_
   refine ah F (ah F (ad (dZ (i:=k) cI bl F F (dX (mG 0 F))) (ao F (n7 (j:=k) (v:=vI 1) (vs:=[(vI 1)]) (cs:=bU xs) 0 bl F F F F F (by simp) F (by first|(simp;omega)|(simp_all;omega)) ?_))))
   refine ef (O':=[aq (aD b2) d.next.length 3 1 (bU (xs.set k 1)),oI b1 25 [(vI d.vars),(vI d.start),(.slice nb d.next.length nc),(.slice fb d.aV.length fc)]]) (by rw[show fe (bU xs) k [(vI 1)]=bU (xs.set k 1)from by simp[fe]];exact cj (aZ _)) ?_
   refine ae (be (ad (kp F F (by omega)) (ah F (ae ?_))))
   refine⟨k+1,by omega,xs.set k 1,F,by omega,by simp[DQ],fun s hs=>?_,fun s h1 h2=>?_,(.of F)⟩
   ·by_cases e:s=k
    ·subst e;rw[List.getElem?_set_self (by omega)];simp[Tm,h0f,hc]
    ·rw[List.getElem?_set_ne (fun h=>e h.symm)];exact LH s (by omega)
   ·rw[List.getElem?_set_ne (by omega)];exact LI s (by omega) h2
  refine aE (be (ad (kp F F (by omega)) (ah F (ae ?_))))
  refine⟨k+1,by omega,xs,F,by omega,DQ,fun s hs=>?_,fun s h1 h2=>LI s (by omega) h2,(.of F)⟩
  by_cases e:s=k
  ·subst e;rw[LI _ (a8 _) Ci];simp[Tm,h0f,Classical.not_not.1 hc]
  ·exact LH s (by omega)
 have PM: ¬k<d.next.length:=by omega
 refine cG ?_
 refine ai (ah F (aj F (ae (aN (az ?_)))))
 refine aT (.slice (aD b2) d.next.length d.next.length) Tryz.results118 F ?_
 have hx:xs=mi d:=by
  apply List.ext_getElem?
  intro s
  by_cases hs:s<d.next.length
  ·rw[LH s (by omega)];simp[mi,hs]
  ·rw[bQ (by omega),bQ (by simp[mi];omega)]
 exact⟨[aq (aD b2) d.next.length 3 1 (bU xs)],(aC [0] F),_,_,F,by rw[hx]⟩
theorem vA (w:World) [dB Tryz.prog w] (b1 b2:Option Addr) (c1 c2 n:Nat) (xs ys:List Nat) (h1:Sl w b1 (bU xs)) (h2:Sl w b2 (bU ys)) (hx:xs.length=n) (hy:ys.length=n) (hb:n<9223372036854775807):
  cA Tryz.prog 120 [.slice b1 n c1,.slice b2 n c2] w fun v N=>v=.bool (decide (xs=ys))∧N=[]:=by
 refine aG func120 F ntmps120 F ?_
 refine ai (aj F (ae (aO (ai (ah F (ad (cP cI F) (ah F (ad (cP cI F) (ad (dP F F) (ae (aP F (fun hc=>?_) (fun hc=>?_))))))))))))
 ·exact absurd hc (by omega)
 have vh: ¬n≠n:=by omega
 refine aE (aO (ai (ah F (ad (cP cI F) (ah F (ae (aU ?_)))))))
 refine et (fun(k:Nat) ρ O=>O=[]∧k≤n∧xs.take k=ys.take k∧dt [(0,(.slice b1 n c1)),(1,(.slice b2 n c2)),(12,vI (n:Int)),(13,vI (k:Int))] ρ) (fun k=>n-k) 0 ?_ ?_
 ·exact⟨F,bs _,F,⟨F,F,F,F,trivial⟩⟩
 rintro k ρ O ⟨rfl,hk,he,hH⟩
 obtain⟨gP,rfl⟩:=hH.elim
 clear hH
 refine ai (ad (cR F F) (ae (aO (aP F (fun hc=>?_) (fun hc=>?_)))))
 ·have pI:k<n:=by omega
  have hkx:k<xs.length:=by omega
  have hky:k<ys.length:=by omega
  refine aE (aO (aU (ai (ah F (aj F (ae (aO ?_)))))))
  refine fQ [(0,0),(1,0),(2,0),(3,0),(4,0),(5,0),(6,0),(7,0),(8,0)] ?_
  refine au F (aK F) (au F (aK F) (au F (dZ (i:=k) cI bl F F (aJ h1)) (au F (c_ dS F F (aJ h1) ij) (au F (aK F) (au F (aK F) (au F (dZ (i:=k) cI bl F F (aJ h2)) (au F (c_ dS F F (aJ h2) ij) (au F (dP F F) ?_))))))))
  refine cy ?_
  refine aP (p:= ¬xs[k]=ys[k]) (ax Value.bool (decide_eq_decide.2 (by omega))) (fun hc=>?_) (fun hc=>?_)
  ·have li:xs[k]≠ys[k]:=by omega
   refine ai (aj F (ae (aN ?_)))
   refine aT (.bool false) Tryz.results120 F ?_
   exact⟨ax Value.bool (ak (fun e=>hc (by subst e;rfl))).symm,F⟩
  have Bt: ¬xs[k]≠ys[k]:=by omega
  refine aE (be (ad (kp F F (by omega)) (ah F (ae ?_))))
  refine⟨k+1,by omega,F,by omega,?_,⟨F,F,F,F,trivial⟩⟩
  rw[aH hkx,aH hky,he]
  exact ax _ (ax (fun z=>[z]) (Classical.not_not.1 hc))
 have xG: ¬k<n:=by omega
 refine cG ?_
 refine ai (aj F (ae (aN ?_)))
 refine aT (.bool true) Tryz.results120 F ?_
 exact⟨ax Value.bool (av (show xs=ys by rw[bt (by omega),bt (by omega)]at he;exact he)).symm,F⟩
theorem H9 (w:World) [dB Tryz.prog w] (d:cM) (nb fb:Option Addr) (nc fc:Nat) (vs:List Value) (h:ii w d nb vs fb) (hb:d.next.length<9223372036854775807) (qV: ∀r∈d.next,r.length<9223372036854775807) (rP:d.aV.length<9223372036854775807) (he:cX d≠0) (k:Int):
  cA Tryz.prog 81 [.agg (eG d nb nc fb fc).toArray,vI k] w fun v N=>v=.tuple #[nS,vI (cX d:Int)]∧N=[]:=by
 refine aG func81 F ntmps81 F ?_
 refine ai (ao F (dE (cs:=[(vI d.vars),(vI d.start),(.slice nb d.next.length nc),(.slice fb d.aV.length fc)]) F F (fun b1=>?_)))
 refine aj F (aj F (ae (aO (ai (ad (ew 0 cS F bK F F F) ?_)))))
 have qt:=fun(w1:World) (hI:Inv w [oI b1 25 [(vI d.vars),(vI d.start),(.slice nb d.next.length nc),(.slice fb d.aV.length fc)]] w1)=>(haveI:=ey hI;iY w1 d nb fb nc fc vs (hI.BF h) hb qV rP)
 refine ao F (bm vp (aX qt) F ?_)
 clear qt
 rintro v O' ⟨N,rfl,rfl,rfl⟩
 refine aj F (ae (ai (ah F (ad (aA (dP F F) (av (by omega))) (ae ?_)))))
 refine bW F ?_
 refine ai (ah F (aj F (aj F (ae (aN (az ?_))))))
 refine dc nS (vI (cX d:Int)) Tryz.results81 F F ?_
 exact⟨[],cj (cm _),F,F⟩
theorem LJ (w:World) [dB Tryz.prog w] (d:cM) (nb fb:Option Addr) (nc fc:Nat) (vs:List Value) (h:ii w d nb vs fb) (hv:Valid d) (hn:d.next.length<10000) (k:Int) (vd:k≤9223372036854775807):
  cA Tryz.prog 81 [.agg (eG d nb nc fb fc).toArray,vI k] w fun v N=> ∃b c,v=.tuple #[.slice b d.next.length c,vI 0]∧N=[aq b c 3 1 (bU (ie d k.toNat))]:=by
 refine aG func81 F ntmps81 F ?_
 have he:=dO.2 hv
 have hb:d.next.length<9223372036854775807:=by omega
 have qV: ∀r∈d.next,r.length<9223372036854775807:=hv.wM
 have rP:d.aV.length<9223372036854775807:=by have:=hv.fin;omega
 refine ai (ao F (dE (cs:=[(vI d.vars),(vI d.start),(.slice nb d.next.length nc),(.slice fb d.aV.length fc)]) F F (fun b1=>?_)))
 refine aj F (aj F (ae (aO (ai (ad (ew 0 cS F bK F F F) ?_)))))
 have qt:=fun(w1:World) (hI:Inv w [oI b1 25 [(vI d.vars),(vI d.start),(.slice nb d.next.length nc),(.slice fb d.aV.length fc)]] w1)=>(haveI:=ey hI;iY w1 d nb fb nc fc vs (hI.BF h) hb qV rP)
 refine ao F (bm vp (aX qt) F ?_)
 clear qt
 rintro v O' ⟨N,rfl,rfl,rfl⟩
 rw[he]
 refine aj F (ae (ai (ah F (ad (dP F F) (ae (a_ F (aE (ai (ad (ew 0 cS F bK F F F) ?_)))))))))
 have JW:=fun(w1:World) (hI:Inv w [oI b1 25 [(vI d.vars),(vI d.start),(.slice nb d.next.length nc),(.slice fb d.aV.length fc)]] w1)=>(haveI:=ey hI;Tl w1 d nb fb nc fc vs (hI.BF h) hv)
 refine ao F (bm S0 (aX JW) F ?_)
 clear JW
 rintro v O' ⟨N,rfl,b0,c0,rfl,rfl⟩
 refine aj F (ae (aO (ai (ah F (ah F (ae (aU ?_)))))))
 refine et (fun(i:Nat) ρ O=> ∃(b:Option Addr) (c:Nat),O=[aq b c 3 1 (bU (ie d i)),oI b1 25 [(vI d.vars),(vI d.start),(.slice nb d.next.length nc),(.slice fb d.aV.length fc)]]∧i≤k.toNat∧dt [(0,(.agg #[(vI d.vars),(vI d.start),(.slice nb d.next.length nc),(.slice fb d.aV.length fc)])),(1,vI k),(2,(.pointer (aD b1))),(4,nS),(5,vI 0),(6,vN 0),(7,(.slice b d.next.length c)),(16,vI k),(17,vI (i:Int))] ρ) (fun i=>k.toNat-i) 0 ?_ ?_
 ·exact⟨b0,c0,F,bs _,(.of F)⟩
 rintro i ρ O ⟨b,c,rfl,TT,hH⟩
 obtain⟨gP,rfl⟩:=hH.elim
 clear hH
 refine ai (ad (cR F F) (ae (aO (aP F (fun hc=>?_) (fun hc=>?_)))))
 ·have hik:i<k.toNat:=by omega
  refine aE (aO (aU (ai (ad (ew 1 cS F bK F F F) (ah F ?_)))))
  have Xq:=fun(w1:World) (hI:Inv w [aq b c 3 1 (bU (ie d i)),oI b1 25 [(vI d.vars),(vI d.start),(.slice nb d.next.length nc),(.slice fb d.aV.length fc)]] w1)=>(haveI:=ey hI;OG w1 d nb fb nc fc vs (hI.BF h) hv b c (ie d i) (hI.gW (mG 0 F)) (ft d i) (LL hn i))
  refine ao F (bm S1 (aX Xq) F ?_)
  clear Xq
  rintro v O' ⟨N,rfl,b9,c9,rfl,rfl⟩
  refine aj F (ae (aO (ai (ah F (ah F ?_)))))
  by_cases yB:iP d (ie d i)=ie d i
  ·have tu:=fun(w1:World) (hI:Inv w [aq b9 c9 3 1 (bU (iP d (ie d i))),aq b c 3 1 (bU (ie d i)),oI b1 25 [(vI d.vars),(vI d.start),(.slice nb d.next.length nc),(.slice fb d.aV.length fc)]] w1)=>(haveI:=ey hI;vA w1 b9 b c9 c d.next.length (iP d (ie d i)) (ie d i) (hI.gW (mG 0 F)) (hI.gW (mG 1 F)) (ft d (i+1)) (ft d i) (by omega))
   refine ao F (bm La (aX tu) F ?_)
   clear tu
   rintro v O' ⟨N,rfl,rfl,rfl⟩
   rw[av yB]
   refine ae ?_
   refine bW F ?_
   refine cG ?_
   refine ai (ah F (aj F (aj F (ae (aN (az ?_))))))
   refine dc (.slice b d.next.length c) (vI 0) Tryz.results81 F F ?_
   have hx:ie d k.toNat=ie d i:=sC yB _ TT
   exact⟨[aq b c 3 1 (bU (ie d i))],(aC [1] F),_,_,F,by rw[hx]⟩
  have tu:=fun(w1:World) (hI:Inv w [aq b9 c9 3 1 (bU (iP d (ie d i))),aq b c 3 1 (bU (ie d i)),oI b1 25 [(vI d.vars),(vI d.start),(.slice nb d.next.length nc),(.slice fb d.aV.length fc)]] w1)=>(haveI:=ey hI;vA w1 b9 b c9 c d.next.length (iP d (ie d i)) (ie d i) (hI.gW (mG 0 F)) (hI.gW (mG 1 F)) (ft d (i+1)) (ft d i) (by omega))
  refine ao F (bm La (aX tu) F ?_)
  clear tu
  rintro v O' ⟨N,rfl,rfl,rfl⟩
  rw[ak yB]
  refine ae (a_ F (aE (be (ah F (aj F (ae (be (ad (kp F F (by omega)) (ah F ?_)))))))))
  refine ef (O':=[aq b9 c9 3 1 (bU (iP d (ie d i))),oI b1 25 [(vI d.vars),(vI d.start),(.slice nb d.next.length nc),(.slice fb d.aV.length fc)]]) (aC [0,1] F) ?_
  refine ae ?_
  exact⟨i+1,by omega,b9,c9,F,by omega,(.of F)⟩
 refine cG ?_
 refine ai (ah F (aj F (aj F (ae (aN (az ?_))))))
 refine dc (.slice b d.next.length c) (vI 0) Tryz.results81 F F ?_
 have hx:ie d k.toNat=ie d i:=by rw[show k.toNat=i by omega]
 exact⟨[aq b c 3 1 (bU (ie d i))],(aC [0] F),_,_,F,by rw[hx]⟩
theorem EZ (w:World) [dB Tryz.prog w] (d:cM) (nb fb:Option Addr) (nc fc:Nat) (vs:List Value) (h:ii w d nb vs fb) (hb:d.next.length<9223372036854775807) (qV: ∀r∈d.next,r.length<9223372036854775807) (rP:d.aV.length<9223372036854775807) (he:cX d≠0):
  cA Tryz.prog 50 [.agg (eG d nb nc fb fc).toArray] w fun v N=>v=.tuple #[nS,vI (cX d:Int)]∧N=[]:=by
 refine aG func50 F ntmps50 F ?_
 refine ai (ao F (dE (cs:=[(vI d.vars),(vI d.start),(.slice nb d.next.length nc),(.slice fb d.aV.length fc)]) F F (fun b1=>?_)))
 refine aj F (aj F (ae (ai (ad (ew 0 cS F bK F F F) (ad (bj cS F fa F F) (ad (bn 0 eI F F F F) (ad (cP eI F) ?_)))))))
 have FC:=fun(w1:World) (hI:Inv w [oI b1 25 [(vI d.vars),(vI d.start),(.slice nb d.next.length nc),(.slice fb d.aV.length fc)]] w1)=>(haveI:=ey hI;H9 w1 d nb fb nc fc vs (hI.BF h) hb qV rP he d.next.length)
 refine ao F (bm Qq (aX FC) F ?_)
 clear FC
 rintro v O' ⟨N,rfl,rfl,rfl⟩
 refine ad (bG (vs:=_) F F) (ad (bG (vs:=_) F F) (aj F (aj F (ae (aN (az ?_))))))
 refine dc nS (vI (cX d:Int)) Tryz.results50 F F ?_
 exact⟨[],cj (cm _),F,F⟩
theorem H_ (w:World) [dB Tryz.prog w] (d:cM) (nb fb:Option Addr) (nc fc:Nat) (vs:List Value) (h:ii w d nb vs fb) (hv:Valid d) (hn:d.next.length<10000):
  cA Tryz.prog 50 [.agg (eG d nb nc fb fc).toArray] w fun v N=> ∃b c,v=.tuple #[.slice b d.next.length c,vI 0]∧N=[aq b c 3 1 (bU (ie d d.next.length))]:=by
 refine aG func50 F ntmps50 F ?_
 refine ai (ao F (dE (cs:=[(vI d.vars),(vI d.start),(.slice nb d.next.length nc),(.slice fb d.aV.length fc)]) F F (fun b1=>?_)))
 refine aj F (aj F (ae (ai (ad (ew 0 cS F bK F F F) (ad (bj cS F fa F F) (ad (bn 0 eI F F F F) (ad (cP eI F) ?_)))))))
 have FC:=fun(w1:World) (hI:Inv w [oI b1 25 [(vI d.vars),(vI d.start),(.slice nb d.next.length nc),(.slice fb d.aV.length fc)]] w1)=>(haveI:=ey hI;LJ w1 d nb fb nc fc vs (hI.BF h) hv hn d.next.length (by omega))
 refine ao F (bm Qq (aX FC) F ?_)
 clear FC
 rintro v O' ⟨N,rfl,b,c,rfl,rfl⟩
 refine ad (bG (vs:=_) F F) (ad (bG (vs:=_) F F) (aj F (aj F (ae (aN (az ?_))))))
 refine dc (.slice b d.next.length c) (vI 0) Tryz.results50 F F ?_
 exact⟨[aq b c 3 1 (bU (ie d d.next.length))],(aC [0] F),_,_,F,F⟩
end Go.Proofs.YtgdbfideeeegmaaGreatDoor

namespace Go.Proofs.YtgdbfideeeegmaaGreatDoor
open Go.Lx Go.RowKit _root_.Go.Proofs.Tryz
theorem L6 (base:World) [dB Tryz.prog base] (bx m:Nat) (ks:List (List UInt8)) (key:List UInt8) (hk:key∈ks) (hb:ks.length<1000000):
  cd Tryz.prog base 124 [str key,.pointer (aD bx)] [dR bx (.cells #[.map (some m)] 160 (0,0)),dz str (fun n:Nat=>Value.int .i64 (n:Int)) m ks.zipIdx] (fun v O'=>v=vN (ix key (add ks key))∧O'=[dR bx (.cells #[.map (some m)] 160 (0,0)),dz str (fun n:Nat=>Value.int .i64 (n:Int)) m (add ks key).zipIdx]):=by
 refine aG func124 F ntmps124 F ?_
 refine ai (aj F (ae (ai (ad (bn 0 iE F F F F) (ah F (ad (bT (jD (a:=key) iE bl (gB.string vg) F F (mG 1 F)) (v':=(.tuple #[vN (ix key ks),.bool true])) (by rw[kR];simp[hk])) (ah F (ad (bG (vs:=_) F F) (ad (bG (vs:=_) F F) (aj F (aj F (ae (aO (ai (ah F (ad (i_ F) (ae ?_)))))))))))))))))
 refine a_ F (aE (ai (ah F (aj F (ae (aN ?_))))))
 refine aT (vN (ix key ks)) Tryz.results124 F ?_
 have ha:add ks key=ks:=aR hk
 rw[ha];exact⟨F,F⟩
theorem Il (base:World) [dB Tryz.prog base] (bx m:Nat) (ks:List (List UInt8)) (key:List UInt8) (hk:key∉ks) (hb:ks.length<1000000):
  cd Tryz.prog base 124 [str key,.pointer (aD bx)] [dR bx (.cells #[.map (some m)] 160 (0,0)),dz str (fun n:Nat=>Value.int .i64 (n:Int)) m ks.zipIdx] (fun v O'=>v=vN (ix key (add ks key))∧O'=[dR bx (.cells #[.map (some m)] 160 (0,0)),dz str (fun n:Nat=>Value.int .i64 (n:Int)) m (add ks key).zipIdx]):=by
 refine aG func124 F ntmps124 F ?_
 refine ai (aj F (ae (ai (ad (bn 0 iE F F F F) (ah F (ad (bT (jD (a:=key) iE bl (gB.string vg) F F (mG 1 F)) (v':=(.tuple #[vI 0,.bool false])) (by rw[kR];simp[hk])) (ah F (ad (bG (vs:=_) F F) (ad (bG (vs:=_) F F) (aj F (aj F (ae (aO (ai (ah F (ad (i_ F) (ae ?_)))))))))))))))))
 refine bW F ?_
 refine ai (ad (bn 0 iE F F F F) (ad (bT (qd iE F (mG 1 F)) (v':=vN ks.length) (by simp)) (aj F (ae (be (ad (bn 0 iE F F F F) (ah F (ah F (ao F (qf (a:=key) (v:=ks.length) 1 iE (gB.string vg) F F F F (by rw[mN];exact hk) ?_))))))))))
 refine ae (ai (ah F (aj F (ae (aN ?_)))))
 refine aT (vN ks.length) Tryz.results124 F ?_
 have ha:add ks key=ks++[key]:=ay hk
 rw[ha]
 refine⟨by rw[fM hk];simp[ix],?_⟩
 rw[show(ks++[key]).zipIdx=ks.zipIdx++[(key,ks.length)] by rw[List.zipIdx_append];simp];rfl
theorem XG (base:World) [dB Tryz.prog base] (bx m:Nat) (ks:List (List UInt8)) (key:List UInt8) (hb:ks.length<1000000):
  cd Tryz.prog base 124 [str key,.pointer (aD bx)] [dR bx (.cells #[.map (some m)] 160 (0,0)),dz str (fun n:Nat=>Value.int .i64 (n:Int)) m ks.zipIdx] (fun v O'=>v=vN (ix key (add ks key))∧O'=[dR bx (.cells #[.map (some m)] 160 (0,0)),dz str (fun n:Nat=>Value.int .i64 (n:Int)) m (add ks key).zipIdx]):=by
 by_cases hk:key∈ks
 ·exact L6 base bx m ks key hk hb
 ·exact Il base bx m ks key hk hb
theorem L7 (base:World) [dB Tryz.prog base] (tr:List UInt8→Nat→List UInt8) (L B:Nat) (start:List UInt8) (fv:Value) (J:List (List UInt8)→List Lx.Item→Prop) (Good:List (List UInt8)→Prop) (hL:L≤64) (hB:B≤4096)
  (hn: ∀(ks:List (List UInt8)) (s x:Nat) (O:List Lx.Item),s<ks.length→x<L→Good ks→J ks O→eK Tryz.prog base fv [vI (s:Int),.int .u8 (x:Int)] O (fun v O'=>v=str (tr (ks.getD s []) x)∧Good (add ks (tr (ks.getD s []) x))∧J (add ks (tr (ks.getD s []) x)) O'))
  (hg: ∀ks,Good ks→ks.length≤B) (O:List Lx.Item) (h0:Good [start]) (hJ0:J [start] O):
  cd Tryz.prog base 86 [vI (L:Int),vI (B:Int),str start,fv] O (fun v O'=> ∃b c qs N O1,v=.tuple #[.slice b N c,.bool true]∧O'=aq b c 56 1 (dl qs)::(ce 3 qs++O1)∧J (xA tr L start N) O1∧Good (xA tr L start N)∧(xA tr L start N).length=N∧qz tr L (xA tr L start N) N (nums qs)∧ ∀i,i<N→i<(xA tr L start i).length):=by
 refine aG func86 F ntmps86 F ?_
 refine ai (aj F (aj F (ae ?_)))
 refine T.scope ?_ (fun _ _ _ h=>h)
 refine ai (ao F (lz str (fun n:Nat=>Value.int .i64 (n:Int)) (fun m1=>?_)))
 refine ah F (ao F (fT (a:=start) (v:=(0:Nat)) 0 iE (gB.string vg) F F F F (by simp) ?_))
 refine ah F (ao F (bu AR F (fun b2=>?_)))
 refine ao F (bV (vs:=[(.map (some m1))]) 0 AR F F F F ?_)
 refine ae (ai (ad (e8) (aj F (ae (aO ?_)))))
 refine T.label ?_
 refine aO (ai (aj F (ae (aU (T.eY 56 1 ?_)))))
 let eJ:Lx.Item:=oI b2 160 [(.map (some m1))]
 let gd:Value:=(.pointer (aD b2))
 refine et (fun(s:Nat) ρ O=> ∃(ks:List (List UInt8)) (qs:List Rec) (ob:Option Addr) (oc:Nat) (O1:List Lx.Item),O=([aq ob oc 56 1 (dl qs),eJ,dz str (fun n:Nat=>Value.int .i64 (n:Int)) m1 ks.zipIdx]++(ce 3 qs++O1))∧xA tr L start s=ks∧Good ks∧J ks O1∧qz tr L ks s (nums qs)∧(∀i,i<s→i<(xA tr L start i).length)∧dt [(0,vI (L:Int)),(1,vI (B:Int)),(2,str start),(3,fv),(8,(.slice ob s oc)),(9,.bool false),(10,gd),(11,(.func (.func 124) #[] #[gd])),(12,vI (s:Int))] ρ) (fun s=>B-s) 0 ?_ ?_
 ·exact⟨[start],[],none,0,O,F,F,h0,hJ0,⟨F,by simp,fun i hi=>absurd hi (by omega),fun i hi=>absurd hi (by omega)⟩,fun i hi=>absurd hi (by omega),(.of F)⟩
 rintro s ρ O ⟨ks,qs,ob,oc,O1,rfl,n8,hG,hJ,hE,jU,hH⟩
 obtain⟨gP,rfl⟩:=hH.elim
 clear hH
 have hgl:=hg _ hG
 have Hw:qs.length=s:=by have:=hE.len;simpa using this
 refine aO (ai (ah F (ad (bn 1 iE F F F F) (ad (bT (qd iE F (mG 2 F)) (v':=vI (ks.length:Int)) (by rw[List.length_zipIdx])) (ad (cR F F) (ae (aP F (fun hc=>?_) (fun hc=>?_))))))))
 ·have mU:s<ks.length:=by omega
  refine aE (aO (aU (ai (ah F (ao F (cW (m:=L) cI bl F F (by omega) (by omega) (fun b3=>?_)))))))
  refine aj F (ae (aO (ai (ah F (ad (cP cI F) (ah F (ae (aU ?_))))))))
  refine et (fun(x:Nat) ρ O=> ∃(fg:List (List UInt8)) (ys:List Int) (O2:List Lx.Item),O=([aq (aD b3) L 3 1 (ints ys),aq ob oc 56 1 (dl qs),eJ,dz str (fun n:Nat=>Value.int .i64 (n:Int)) m1 fg.zipIdx]++(ce 3 qs++O2))∧x≤L∧ys.length=L∧Good fg∧J fg O2∧fg=((List.range x).map (tr (ks.getD s []))).foldl add ks∧(∀i,i<x→ys[i]? =some ((ix (tr (ks.getD s []) i) fg:Nat):Int))∧dt [(0,vI (L:Int)),(1,vI (B:Int)),(2,str start),(3,fv),(8,(.slice ob s oc)),(9,.bool false),(10,gd),(11,(.func (.func 124) #[] #[gd])),(12,vI (s:Int)),(13,(.slice (aD b3) L L)),(28,vI (L:Int)),(29,vI (x:Int))] ρ) (fun x=>L-x) 0 ?_ ?_
  ·exact⟨ks,List.replicate L 0,O1,by simp,bs _,by simp,hG,hJ,F,fun i hi=>absurd hi (by omega),(.of F)⟩
  rintro x ρ O ⟨fg,ys,O2,rfl,hx,Cl,Yx,T_,pO,yJ,hH⟩
  obtain⟨gP,rfl⟩:=hH.elim
  clear hH
  have aeB:=hg _ Yx
  have ur:ks<+:fg:=pO▸gD _ _
  have sh:fg.getD s []=ks.getD s []:=lX ur mU
  have VR:=ur.length_le
  refine ai (ad (cR F F) (ae (aO (aP F (fun hc=>?_) (fun hc=>?_)))))
  ·have iL:x<L:=by omega
   refine aE (aO (aU (ai (ah F (aj F (ae (ai (ah F (ah F (ah F (ah F (ah F (ah F (ad (fS dS fF F (show IntKind.u8.wrap (x:Int)=(x:Int) by unfold IntKind.wrap;simp[IntKind.bits,IntKind.signed];omega)) ?_))))))))))))))
   let gr:Lx.Item:=aq (aD b3) L 3 1 (ints ys)
   have XH:=eK.under (B:=[gr,aq ob oc 56 1 (dl qs),eJ,dz str (fun n:Nat=>Value.int .i64 (n:Int)) m1 fg.zipIdx]++ce 3 qs) (O:=([gr,aq ob oc 56 1 (dl qs),eJ,dz str (fun n:Nat=>Value.int .i64 (n:Int)) m1 fg.zipIdx]++(ce 3 qs++O2))) (hn fg s x O2 (by omega) iL Yx T_) (gS [])
   refine ao F (fh XH F F ?_)
   clear XH
   rintro v O' ⟨O3,rfl,rfl,hG3,hJ3⟩
   refine ef (O':=([gr,aq ob oc 56 1 (dl qs),eJ,dz str (fun n:Nat=>Value.int .i64 (n:Int)) m1 fg.zipIdx]++(ce 3 qs++O3))) (gS []) ?_
   rw[sh]at hG3 hJ3⊢
   have ox:=cQ (first:=[]) (args:=[str (tr (ks.getD s []) x)]) (gv:=[gd]) S3 (cd.under (B:=[gr,aq ob oc 56 1 (dl qs)]++(ce 3 qs++O3)) (O:=([gr,aq ob oc 56 1 (dl qs),eJ,dz str (fun n:Nat=>Value.int .i64 (n:Int)) m1 fg.zipIdx]++(ce 3 qs++O3))) (XG base b2 m1 fg (tr (ks.getD s []) x) (by have:=hg _ Yx;omega)) (kx [2,2,0,0] [gr,aq ob oc 56 1 (dl qs),eJ,dz str (fun n:Nat=>Value.int .i64 (n:Int)) m1 fg.zipIdx] (ce 3 qs++O3) F F))
   refine ao F (fh ox F F ?_)
   clear ox
   rintro v O' ⟨A1,rfl,rfl,rfl⟩
   refine ef (O':=([gr,aq ob oc 56 1 (dl qs),eJ,dz str (fun n:Nat=>Value.int .i64 (n:Int)) m1 ((add fg (tr (ks.getD s []) x)).zipIdx)]++(ce 3 qs++O3))) (kx [2,2,0,0] [eJ,dz str (fun n:Nat=>Value.int .i64 (n:Int)) m1 ((add fg (tr (ks.getD s []) x)).zipIdx),gr,aq ob oc 56 1 (dl qs)] (ce 3 qs++O3) F F) ?_
   refine ad (dZ (i:=x) cI bl F F (dX (mG 0 F))) (ao F (n7 (j:=x) (v:=vN (ix (tr (ks.getD s []) x) (add fg (tr (ks.getD s []) x)))) (vs:=[(vN (ix (tr (ks.getD s []) x) (add fg (tr (ks.getD s []) x))))]) (cs:=ints ys) 0 bl F F F F F (by simp) F (by first|(simp;omega)|(simp_all;omega)) ?_))
   refine ef (O':=([aq (aD b3) L 3 1 (ints (ys.set x ((ix (tr (ks.getD s []) x) (add fg (tr (ks.getD s []) x)):Nat):Int))),aq ob oc 56 1 (dl qs),eJ,dz str (fun n:Nat=>Value.int .i64 (n:Int)) m1 ((add fg (tr (ks.getD s []) x)).zipIdx)]++(ce 3 qs++O3))) (by rw[show fe (ints ys) x [(vN (ix (tr (ks.getD s []) x) (add fg (tr (ks.getD s []) x))))]=ints (ys.set x ((ix (tr (ks.getD s []) x) (add fg (tr (ks.getD s []) x)):Nat):Int))from by simp[fe]];exact cj (aZ _)) ?_
   refine ae (ai (ad (bn 2 iE F F F F) (ad (bT (qd iE F (mG 3 F)) (v':=vI ((add fg (tr (ks.getD s []) x)).length:Int)) (by rw[List.length_zipIdx])) (ah F (ad (gH F F) (ae (aP F (fun hc=>?_) (fun hc=>?_))))))))
   ·exact absurd hc (by have:=hg _ hG3;omega)
   have W5: ¬(add fg (tr (ks.getD s []) x)).length>B:=by omega
   refine aE (be (ad (kp F F (by omega)) (ah F (ae ?_))))
   have Eh: ∀y,y<x→tr (ks.getD s []) y∈fg:=fun y hy=>by rw[pO,eN];exact .inr (List.mem_map_of_mem (List.mem_range.2 hy))
   refine⟨x+1,by omega,add fg (tr (ks.getD s []) x),ys.set x ((ix (tr (ks.getD s []) x) (add fg (tr (ks.getD s []) x)):Nat):Int),O3,F,by omega,by simp[Cl],hG3,hJ3,by rw[iW,←pO],fun i hi=>?_,(.of F)⟩
   by_cases e:i=x
   ·subst e;rw[List.getElem?_set_self (by omega)]
   ·rw[List.getElem?_set_ne (fun h=>e h.symm),yJ i (by omega),ig (jE _ _) (Eh i (by omega))]
  have Fy: ¬x<L:=by omega
  refine cG ?_
  refine be (ah F (ah F (ao F (cO (v:=(.slice (aD b3) L L)) eI cU F F F (fun b4=>?_)))))
  refine ao F (dh 2 eI eI cU F F F F (by simp[Hw]) (by decide) (Src.row (j:=0) F (by simp)) (by simp[fu]) (by omega) (by decide) (by decide) (fun b5 c6=>?_))
  refine aj F (ae ?_)
  refine dv (O':=[aq b5 c6 56 1 (dl (qs++[⟨(aD b3),L,ys⟩])),eJ,dz str (fun n:Nat=>Value.int .i64 (n:Int)) m1 fg.zipIdx]++(ce 3 (qs++[⟨(aD b3),L,ys⟩])++O2)) (by
   rw[show dl (qs++[⟨(aD b3),L,ys⟩])=(dl qs)++[(.slice (aD b3) L L)] by simp[Rec.val,Cl]]
   exact Sub.wg [aq (aD b4) 1 56 1 [(.slice (aD b3) L L)]] (by intro a;simp only[List.set_cons_zero,List.set_cons_succ,ce,bo,cD,fz,Rec.sM,o8,n6,Fm,vI,nS,aD,cJ,c8,aI,cT]<;>omega)) ?_
  refine be (ah F (ad (kp F F (by omega)) (aj F (ae ?_))))
  have J5:x=L:=by omega
  have Eh: ∀y,y<L→tr (ks.getD s []) y∈fg:=fun y hy=>by rw[pO,eN];exact .inr (List.mem_map_of_mem (List.mem_range.2 (by omega)))
  have RR:ys=kT tr L fg s:=by
   apply List.ext_getElem?
   intro i
   by_cases hi:i<L
   ·rw[yJ i (by omega)];simp only[kT,sh];simp[hi]
   ·rw[bQ (by omega),bQ (by simp[kT];omega)]
  have Rm:qz tr L fg (s+1) (nums (qs++[⟨(aD b3),L,ys⟩])):=by
   have:=hE.snoc ur mU RR (by rw[sh];exact Eh)
   simpa[nums]using this
  have aaX: ∀i,i<s+1→i<(xA tr L start i).length:=fun i hi=>by
   by_cases e:i=s
   ·subst e;rw[n8];exact mU
   ·exact jU i (by omega)
  exact⟨s+1,by omega,fg,qs++[⟨(aD b3),L,ys⟩],b5,c6,O2,F,by rw[xA,n8,pO,J5],Yx,T_,Rm,aaX,(.of F)⟩
 have xk: ¬s<ks.length:=by omega
 refine cG ?_
 refine ai (ah F (ad (bn 1 iE F F F F) (ad (bT (qd iE F (mG 2 F)) (v':=vI (ks.length:Int)) (by rw[List.length_zipIdx])) (ah F (ad (aA (I7 F F) (av (by have:=hg _ hG;omega))) (aj F (aj F (ae (aN (az ?_))))))))))
 refine dc (.slice ob s oc) (.bool true) Tryz.results86 F F ?_
 have hN:ks.length=s:=by have:=hE.le;omega
 exact⟨_,(kx [0] [aq ob oc 56 1 (dl qs),eJ,dz str (fun n:Nat=>Value.int .i64 (n:Int)) m1 ks.zipIdx] (ce 3 qs++O1) F F),ob,oc,qs,s,O1,F,F,by rw[n8];exact hJ,by rw[n8];exact hG,by rw[n8];exact hN,by rw[n8];exact hE,jU⟩
theorem XI (base:World) [dB Tryz.prog base] (d:cM) (nb fb:Option Addr) (nc fc:Nat) (vs:List Value) (h:ii base d nb vs fb) (hv:Valid d) (hn:d.next.length<10000) (b1 b2 b3:Nat) (os:List Nat) (sn:List Bool) (ob sb:Option Addr) (oc sc MD s x:Nat) (hs:s<os.length) (hx:x<2^d.vars.toNat) (H8: ∀o∈os,o<d.next.length) (lx:os.Nodup) (Ms:sn.length=d.next.length) (rH: ∀t,t<d.next.length→sn[t]? =some (decide (t∈os))):
  cd Tryz.prog base 84 ([vI (s:Int),.int .u8 (x:Int)]++[.pointer (aD b1),.pointer (aD b2),.pointer (aD b3)])
   [oI b1 25 [(vI d.vars),(vI d.start),(.slice nb d.next.length nc),(.slice fb d.aV.length fc)],oI b2 56 [(.slice ob os.length oc)],aq ob oc 3 1 (bU os),oI b3 23 [(.slice sb d.next.length sc)],aq sb MD 4 1 (cE sn)]
   (fun v O'=>v=str (Lib.decDigits (e7 d os[s] x))∧ ∃Yy Yz XJ,XJ.length=d.next.length∧(∀t,t<d.next.length→XJ[t]? =some (decide (t∈add os (e7 d os[s] x))))∧O'=[oI b1 25 [(vI d.vars),(vI d.start),(.slice nb d.next.length nc),(.slice fb d.aV.length fc)],oI b2 56 [(.slice Yy ((add os (e7 d os[s] x)).length) Yz)],aq Yy Yz 3 1 (bU (add os (e7 d os[s] x))),oI b3 23 [(.slice sb d.next.length sc)],aq sb MD 4 1 (cE XJ)]):=by
 refine aG func84 F ntmps84 F ?_
 obtain⟨o,MC⟩: ∃o,os[s]=o:=⟨_,F⟩
 have aaY:os[s]? =some o:=by rw[ap hs,MC]
 have ho:o<d.next.length:=MC▸H8 _ (aL hs)
 obtain⟨t,ht⟩: ∃t,e7 d o x=t:=⟨_,F⟩
 obtain⟨YA,_,hxr,hdx⟩:=hv.gV ho hx
 rw[ht]at YA hdx
 rw[MC,ht]
 have IX:=h.rows.1
 have hw:=hv.width
 obtain⟨vb,vc,g1,s1⟩:=h.rows.get ho
 have ZD:(ints d.next[o])[x]? =some (vN t):=by rw[gI hxr,hdx]
 have Sj:=eT lx H8
 have yB:=rH t YA
 have Mx:t<sn.length:=by omega
 refine ai (aj F (ae (aO ?_)))
 refine fQ [(0,0),(1,0),(2,0),(3,0),(4,0),(5,0),(6,0),(7,0),(8,0),(9,0),(10,0),(11,0)] ?_
 refine au F (bj cS F fa F F) (au F (bn 0 eI F F F F) (au F (bn 1 cI F F F F) (au F (aK F) ?_)))
 refine au F (dZ (i:=s) cI bl F F (dX (mG 2 F)) hs (by rw[ar];exact hs)) (au F (c_ dS F F (dX (mG 2 F)) (show(bU os)[s]? =some (vN o) by rw[bq,aaY];rfl)) (au F (dZ (i:=o) eI cU F F (aJ h.outer) ho) (au F (c_ cI F F (aJ h.outer) g1) ?_)))
 refine au F (aK F) (au F (dZ (i:=x) cI bl F F (aJ s1) hxr (by rw[ar];exact hxr)) (au F (c_ dS F F (aJ s1) ZD) (au F (cq F) ?_)))
 refine cy ?_
 refine aO (ai ?_)
 refine ad (bn 3 eu F F F F) (ah F (ad (dZ (i:=t) eu fw F F (dX (mG 4 F)) YA (by rw[ar];exact Mx)) (ad (c_ Bh F F (dX (mG 4 F)) (show(cE sn)[t]? =some (.bool (decide (t∈os))) by rw[bq,yB];rfl)) ?_)))
 refine ad (i_ F) (ae (aP (p:=t∉os) (ax Value.bool (by simp)) (fun hc=>?_) (fun hc=>?_)))
 ·let iB:Lx.Item:=oI b1 25 [(vI d.vars),(vI d.start),(.slice nb d.next.length nc),(.slice fb d.aV.length fc)]
  refine rX [iB,oI b3 23 [(.slice sb d.next.length sc)],aq sb MD 4 1 (cE sn)] [oI b2 56 [(.slice ob os.length oc)]] [(0,0),(1,0),(2,3),(3,0),(4,1),(5,1),(6,4),(7,0),(8,2)] mixed (by kernel_rfl) (aC [0,2,2] F) (aC [1] F) (fun _ _ _ _ h=>h) ?_
  refine au F (bn 1 eu F F F F) (au F (aK F) ?_)
  refine dH F (bn 0 cI F F F F) ?_
  refine au F (aK F) ?_
  refine rW F F (cO (v:=vN t) cI bl F F F (fun z1=>⟨aC [1,3,3] F,aC [2] F,?_⟩))
  refine rW F F (dh 3 cI cI bl F F F F (by simp) (by decide) (Src.row (j:=0) F (by simp)) (by simp[fu]) (by omega) (by decide) (by decide) (fun z2 um=>⟨aC [1,3,3] F,aC [2] F,?_⟩))
  refine wW F F (bV (vs:=[(.slice z2 (os.length+1) um)]) 2 cU F F F F ⟨aC [1,3,3] F,?_⟩)
  refine au F (dZ (i:=t) eu fw F F (dX (mG 2 F)) YA (by rw[ar];exact Mx)) ?_
  refine cu F F (n7 (j:=t) (v:=.bool true) (vs:=[(.bool true)]) (cs:=cE sn) 5 fw F F F F F (by simp) F (by first|(simp;omega)|(simp_all;omega)) ?_)
  let gG:List Lx.Item:=[aq (aD z1) 1 3 1 [vN t],oI b1 25 [(vI d.vars),(vI d.start),(.slice nb d.next.length nc),(.slice fb d.aV.length fc)],oI b2 56 [(.slice z2 (os.length+1) um)],aq z2 um 3 1 ((bU os)++[vN t]),oI b3 23 [(.slice sb d.next.length sc)],aq sb MD 4 1 (cE (sn.set t true))]
  refine eW (O':=gG) (by rw[show fe (cE sn) t [(.bool true)]=cE (sn.set t true)from by simp[fe]];exact cj (aZ _)) ?_
  refine cy ?_
  refine ai (ah F ?_)
  have xr:=fun(w1:World) (hI:Inv base gG w1)=>(haveI:=ey hI;L8 w1 t (by omega))
  refine ao F (bm K_ (aX xr) F ?_)
  clear xr
  rintro v O' ⟨N,rfl,rfl,rfl⟩
  refine aj F (ae (aN (az ?_)))
  refine aT (str (Lib.decDigits t)) Tryz.results84 F ?_
  have ha:add os t=os++[t]:=ay hc
  refine⟨[iB,oI b2 56 [(.slice z2 (os.length+1) um)],aq z2 um 3 1 ((bU os)++[vN t]),oI b3 23 [(.slice sb d.next.length sc)],aq sb MD 4 1 (cE (sn.set t true))],(aC [1,1,1,1,1] F),F,z2,um,sn.set t true,by simp[Ms],fun t2 TY=>?_,?_⟩
  ·rw[ha]
   by_cases e:t2=t
   ·subst e;rw[List.getElem?_set_self Mx];simp
   ·rw[List.getElem?_set_ne (fun h=>e h.symm),rH t2 TY];simp[e]
  ·rw[ha,aF,show bU (os++[t])=bU os++[vN t]from bo];rfl
 refine aE (ai (ah F ?_))
 let k8:List Lx.Item:=[oI b1 25 [(vI d.vars),(vI d.start),(.slice nb d.next.length nc),(.slice fb d.aV.length fc)],oI b2 56 [(.slice ob os.length oc)],aq ob oc 3 1 (bU os),oI b3 23 [(.slice sb d.next.length sc)],aq sb MD 4 1 (cE sn)]
 have xr:=fun(w1:World) (hI:Inv base k8 w1)=>(haveI:=ey hI;L8 w1 t (by omega))
 refine ao F (bm K_ (aX xr) F ?_)
 clear xr
 rintro v O' ⟨N,rfl,rfl,rfl⟩
 refine aj F (ae (aN (az ?_)))
 refine aT (str (Lib.decDigits t)) Tryz.results84 F ?_
 have ha:add os t=os:=aR (Classical.not_not.1 hc)
 refine⟨k8,(aC [0,0,0,0,0] F),F,ob,oc,sn,Ms,fun t2 TY=>?_,?_⟩
 ·rw[ha];exact rH t2 TY
 ·rw[ha]
def Tz (d:cM) (nb fb:Option Addr) (nc fc b1 bB bC bD:Nat) (ks:List (List UInt8)) (O:List Lx.Item):Prop:=
 ∃(os:List Nat) (sn:List Bool) (ob:Option Addr) (oc:Nat),ks=os.map Lib.decDigits∧O=[dR b1 (.cells (List.toArray [(vI d.vars),(vI d.start),(.slice nb d.next.length nc),(.slice fb d.aV.length fc)]) 25 (0,0)),dR bC (.cells (List.toArray [(.slice ob os.length oc)]) 56 (0,0)),aq ob oc 3 1 (bU os),dR bD (.cells (List.toArray [(.slice (aD bB) d.next.length d.next.length)]) 23 (0,0)),aq (aD bB) d.next.length 4 1 (cE sn)]∧os.Nodup∧(∀o∈os,o<d.next.length)∧sn.length=d.next.length∧(∀t,t<d.next.length→sn[t]? =some (decide (t∈os)))
set_option maxRecDepth 20000 in
theorem XK (base:World) [dB Tryz.prog base] (d:cM) (nb fb:Option Addr) (nc fc:Nat) (vs:List Value) (h:ii base d nb vs fb) (hv:Valid d) (hn:d.next.length<10000) (b1 bB bC bD:Nat) (ks:List (List UInt8)) (s x:Nat) (O:List Lx.Item) (hs:s<ks.length) (hx:x<2^d.vars.toNat) (hJ:Tz d nb fb nc fc b1 bB bC bD ks O):
  eK Tryz.prog base (.func (.func 84) #[] #[.pointer (aD b1),.pointer (aD bC),.pointer (aD bD)]) [vI (s:Int),.int .u8 (x:Int)] O
   (fun v O'=>v=str (DF d (ks.getD s []) x)∧(add ks (DF d (ks.getD s []) x)).length≤d.next.length∧Tz d nb fb nc fc b1 bB bC bD (add ks (DF d (ks.getD s []) x)) O'):=by
 obtain⟨os,sn,ob,oc,rfl,rfl,lx,H8,Ms,rH⟩:=hJ
 have QZ:s<os.length:=by simpa using hs
 have e:(os.map Lib.decDigits).getD s []=Lib.decDigits os[s]:=by simp[QZ]
 have e2:DF d ((os.map Lib.decDigits).getD s []) x=Lib.decDigits (e7 d os[s] x):=by rw[e,DF,uS]
 have hT:=(hv.gV (H8 _ (aL QZ)) hx).1
 have XL: ∀o∈add os (e7 d os[s] x),o<d.next.length:=fun o ho=>by
  rcases rp.1 ho with ho|ho
  ·exact H8 o ho
  ·rw[ho];exact hT
 refine eK.mono (cQ (first:=[]) (gv:=[.pointer (aD b1),.pointer (aD bC),.pointer (aD bD)]) Xi (XI base d nb fb nc fc vs h hv hn b1 bC bD os sn ob (aD bB) oc d.next.length d.next.length s x QZ hx H8 lx Ms rH)) ?_
 rintro v O' ⟨rfl,Yy,Yz,XJ,h1,h2,rfl⟩
 rw[e2,←GL o_]
 refine⟨F,?_,add os (e7 d os[s] x),XJ,Yy,Yz,F,F,mK lx,XL,h1,h2⟩
 rw[ar];exact eT (mK lx) XL
end Go.Proofs.YtgdbfideeeegmaaGreatDoor


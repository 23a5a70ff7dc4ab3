/- Contracts of functions; conditions: those each theorem names. -/
import Derived.Test.YtgdbfideeeegmaaGreatDoorCards
import Derived.Test.YtgdbfideeeegmaaGreatDoorTie
import Derived.ProofKit
import Derived.Lib.LaidTab
import Derived.Test.YtgdbfideeeegmaaGreatDoorProg
import Derived.Shelf.Slices.Clone
import Derived.Lib.RowBridge
import Derived.Test.YtgdbfideeeegmaaGreatDoorA3
set_option linter.unusedSectionVars false
set_option linter.unusedSimpArgs false
set_option linter.unusedVariables false
set_option linter.unnecessarySimpa false
set_option maxHeartbeats 8000000
set_option maxRecDepth 20000
namespace Go.Proofs.YtgdbfideeeegmaaGreatDoor
open Go.Lx Go.RowKit _root_.Go.Proofs.Tryz
theorem Tg (w:World) (v:Int):cB prog 30 [vI v] w fun x N=>x=.bool (decide (0≤v∧v≤6))∧N=[]:=by
 refine aA func30 F ntmps30 F ?_
 refine aQ (aj (a7 ?_))
 by_cases h4:0≤v
 ·refine ae (bn km h4) ?_
  refine aN (ao aw ?_)
  by_cases h7:v≤6
  ·refine ao (bn tg h7) ?_
   refine ae bw (aj (cM ?_))
   refine aF (.bool true) results30 F ?_
   exact⟨by simp[h4,h7],F⟩
  refine ao (aY tg h7) (ae bw (aj (cM ?_)))
  refine aF (.bool false) results30 F ?_
  exact⟨by simp[h4,h7],F⟩
 refine ae (aY km h4) (aN (cK (ae bU (aj (cM ?_)))))
 refine aF (.bool false) results30 F ?_
 exact⟨by simp[h4],F⟩
theorem yo (w:World) (v:Int) (h0:0≤v) (h6:v≤6):cB prog 31 [vI v] w fun x N=>x=vN (2^v.toNat)∧N=[]:=by
 refine aA func31 F ntmps31 F ?_
 refine aQ (aj (bo (gi underlying3 underlying101 F (show IntKind.u64.wrap v=v by unfold IntKind.wrap;simp[IntKind.bits,IntKind.signed];omega)) (ae (o8 (v:=v.toNat) F (by show Value.int _ v=_;rw[cW h0]) (by omega)) (aj (cM ?_)))))
 refine aF (vN (2^v.toNat)) results31 F ?_
 exact⟨F,F⟩
theorem L4 (w:World) (d:c_) (nb fb:Option Addr) (nc fc:Nat) (vs:List Value) (h:jg w d nb vs fb) (hb:d.next.length<9223372036854775807) (uv: ∀r∈d.next,r.length<9223372036854775807) (wM:d.aT.length<9223372036854775807):
  cB prog 10 [.agg (fe d nb nc fb fc).toArray] w fun v N=>v=vI (di d:Int)∧N=[]:=by
 refine aA func10 F ntmps10 F ?_
 have Qe:=h.rows.1
 refine aQ (ax (ef [(vI d.vars),(vI d.start),(.slice nb d.next.length nc),(.slice fb d.aT.length fc)] (fun b1=>?_)))
 refine aj (aG (bu underlying25 fx) (ae (bF 0 underlying22) (ae (cL underlying22) (aS (bq (ae (bu underlying25 bM) (ae (bF 0 underlying3) ?_)))))))
 by_cases hv:0≤d.vars∧d.vars≤6
 ·let eH:List Lx.Item:=[oI b1 25 [(vI d.vars),(vI d.start),(.slice nb d.next.length nc),(.slice fb d.aT.length fc)]]
  have uB:=fun(w1:World) (hI:Inv w eH w1)=>Tg w1 d.vars
  refine TO.lc Th (aO uB) ?_
  clear uB
  rintro v O' ⟨N,rfl,rfl,rfl⟩
  rw[aZ hv]
  refine aX g_ (bf (aE (br (bo bN (bi (aL F (fun hc=>?_) (fun hc=>?_)))))))
  ·have oL:d.next.length=0:=by omega
   refine aQ (aR ?_)
   refine aF (vI 3) results10 F ?_
   refine⟨[],cd (bV _),am (fun z:Nat=>Value.int .i64 (z:Int)) (show 3=di d from Eq.symm ?_),F⟩
   unfold di
   rw[aq (by simp;exact hv),aB oL]
  have pk: ¬d.next.length=0:=by omega
  refine aE (br (bo gT (bi (aL F (fun hc=>?_) (fun hc=>?_)))))
  ·have yp:d.next.length>4096:=by omega
   refine aQ (aR ?_)
   refine aF (vI 4) results10 F ?_
   refine⟨[],cd (bV _),am (fun z:Nat=>Value.int .i64 (z:Int)) (show 4=di d from Eq.symm ?_),F⟩
   unfold di
   rw[aq (by simp;exact hv),aq pk,aB yp]
  have AX: ¬d.next.length>4096:=by omega
  refine aE (br (aG (bu underlying25 e7) (ae (bF 0 underlying23) (ae (cL underlying23) (aN (aX d_ (aL F (fun hc=>?_) (fun hc=>?_))))))))
  ·have re:d.aT.length≠d.next.length:=by omega
   refine aQ (aR ?_)
   refine aF (vI 2) results10 F ?_
   refine⟨[],cd (bV _),am (fun z:Nat=>Value.int .i64 (z:Int)) (show 2=di d from Eq.symm ?_),F⟩
   unfold di
   rw[aq (by simp;exact hv),aq pk,aq AX,aB re]
  have rh: ¬d.aT.length≠d.next.length:=by omega
  refine aE (br (aG (bu underlying25 bM) (ae (bF 0 underlying3) ?_)))
  by_cases yr:d.start<0
  ·refine ae (bn cV yr) ?_
   refine aN (du (aX bw ?_))
   refine bW ?_
   refine aQ (aR ?_)
   refine aF (vI 8) results10 F ?_
   refine⟨[],cd (bV _),am (fun z:Nat=>Value.int .i64 (z:Int)) (show 8=di d from Eq.symm ?_),F⟩
   unfold di
   rw[aq (by simp;exact hv),aq pk,aq AX,aq (by simpa using rh),aB (.inl yr)]
  refine ae (aY cV yr) (aN (ao (bu underlying25 bM) (ao (bF 0 underlying3) (ao aw ?_))))
  by_cases Gf:(d.next.length:Int)≤d.start
  ·refine ao (bn km Gf) ?_
   refine aX bU ?_
   refine bW ?_
   refine aQ (aR ?_)
   refine aF (vI 8) results10 F ?_
   refine⟨[],cd (bV _),am (fun z:Nat=>Value.int .i64 (z:Int)) (show 8=di d from Eq.symm ?_),F⟩
   unfold di
   rw[aq (by simp;exact hv),aq pk,aq AX,aq (by simpa using rh),aB (.inr Gf)]
  refine ao (aY km Gf) (aX bU (bf (aE (br (aQ (aj (aK ?_)))))))
  let gd:Value:=(.agg #[(vI d.vars),(vI d.start),(.slice nb d.next.length nc),(.slice fb d.aT.length fc)])
  refine dU (fun(k:Nat) ρ O=>O=eH∧k≤d.next.length∧th (2^d.vars.toNat) d.next.length (d.next.drop k)=di d∧dh [(0,gd),(1,(.pointer (aD b1))),(3,vI (d.next.length:Int)),(4,vI (k:Int))] ρ) (fun k=>d.next.length-k) 0 ?_ ?_
  ·refine⟨F,bj _,?_,⟨F,F,F,F,trivial⟩⟩
   unfold di
   rw[aq (by simp;exact hv),aq pk,aq AX,aq (by simp;omega),aq (by omega)];rfl
  rintro k ρ O ⟨rfl,hk,hr,hH⟩
  obtain⟨gv,rfl⟩:=hH.elim
  clear hH
  refine br (a7 (aN (aX cV (aL F (fun hc=>?_) (fun hc=>?_)))))
  ·have yt:k<d.next.length:=by omega
   obtain⟨YM,YN,g1,s1⟩:=h.rows.get yt
   have L5:=uv _ (av yt)
   refine aE (br (aK (br (br ?_))))
   refine fW [(0,0),(1,0),(2,0),(3,0),(4,0),(5,0),(6,0),(7,0),(8,1),(9,0)] ?_
   refine ap F (bu underlying25 fx) (ap F (bF 0 underlying22) (ap F aw (ap F (dB k underlying22 eo F F (a6 h.outer)) (ap F (dD underlying56 F F h.outer g1) (ap F (cL underlying56) (ap F (bu underlying25 bM) (ap F (bF 0 underlying3) ?_)))))))
   have yu:=fun(w1:World) (hI:Inv w eH w1)=>yo w1 d.vars hv.1 hv.2
   refine cG F F (eh L6 (aO yu) ?_)
   clear yu
   rintro v O' ⟨N,rfl,rfl,rfl⟩
   refine⟨cH [0],?_⟩
   refine ap F d_ ?_
   refine cy ?_
   refine aL F (fun hc=>?_) (fun hc=>?_)
   ·have L7:d.next[k].length≠2^d.vars.toNat:=by omega
    refine aQ (aR ?_)
    refine aF (vI 2) results10 F ?_
    refine⟨[],cd (bV _),am (fun z:Nat=>Value.int .i64 (z:Int)) (show 2=di d from Eq.symm ?_),F⟩
    rw[←hr,mT yt,aB L7]
   have AY: ¬d.next[k].length≠2^d.vars.toNat:=by omega
   refine aE (aQ (aj (aK ?_)))
   refine dU (fun(j:Nat) ρ O=>O=eH∧j≤d.next[k].length∧nu d.next.length (d.next[k].take j)=true∧dh [(0,gd),(1,(.pointer (aD b1))),(3,vI (d.next.length:Int)),(4,vI (k:Int)),(5,vI (j:Int))] ρ) (fun j=>d.next[k].length-j) 0 ?_ ?_
   ·exact⟨F,bj _,F,(.of F)⟩
   rintro j ρ O ⟨rfl,hj,FR,hH⟩
   obtain⟨gv,rfl⟩:=hH.elim
   clear hH
   refine br (bo (bu underlying25 fx) (ae (bF 0 underlying22) (ay (dB k underlying22 eo F F (a6 h.outer)) (ae (dD underlying56 F F h.outer g1) (ae (cL underlying56) (aX cV (aL F (fun hc=>?_) (fun hc=>?_))))))))
   ·have L8:j<d.next[k].length:=by omega
    refine aE (br (aK (aG (bu underlying25 fx) (ae (bF 0 underlying22) (ay (dB k underlying22 eo F F (a6 h.outer)) (ae (dD underlying56 F F h.outer g1) (ay (dB j underlying56 bM F F (a6 s1)) (ae (dD underlying3 F F s1 gL) ?_))))))))
    by_cases HL:d.next[k][j]<0
    ·refine ae (bn cV HL) ?_
     refine aN (cY (cK (du ?_)))
     refine cY (cK (aX bw ?_))
     refine bW ?_
     refine aQ (aR ?_)
     refine aF (vI 8) results10 F ?_
     refine⟨[],cd (bV _),am (fun z:Nat=>Value.int .i64 (z:Int)) (show 8=di d from Eq.symm ?_),F⟩
     rw[←hr,mT yt,aq (by simpa using AY),aq (AZ L8 (.inl HL))]
    refine ae (aY cV HL) (aN (ao (bu underlying25 fx) (ao (bF 0 underlying22) (ao aw (ao (dB k underlying22 eo F F (a6 h.outer)) (ao (dD underlying56 F F h.outer g1) (ao aw (ao (dB j underlying56 bM F F (a6 s1)) ?_))))))))
    refine ao (dD underlying3 F F s1 gL) (ao aw ?_)
    by_cases UW:(d.next.length:Int)≤d.next[k][j]
    ·refine ao (bn km UW) ?_
     refine aX bU ?_
     refine bW ?_
     refine aQ (aR ?_)
     refine aF (vI 8) results10 F ?_
     refine⟨[],cd (bV _),am (fun z:Nat=>Value.int .i64 (z:Int)) (show 8=di d from Eq.symm ?_),F⟩
     rw[←hr,mT yt,aq (by simpa using AY),aq (AZ L8 (.inr UW))]
    refine ao (aY km UW) (aX bU (bf (aE (a_ (ay (lF F F (by omega)) (aj ?_))))))
    exact⟨j+1,by omega,F,by omega,Gg L8 FR HL UW,(.of F)⟩
   have agu: ¬j<d.next[k].length:=by omega
   refine cD ?_
   refine a_ (ay (lF F F (by omega)) (aj ?_))
   refine⟨k+1,by omega,F,by omega,?_,⟨F,F,F,F,trivial⟩⟩
   rw[←hr,mT yt,aq (by simpa using AY),aB (Gh (by omega) FR)]
  have YO: ¬k<d.next.length:=by omega
  refine cD ?_
  refine aQ (aR ?_)
  refine aF (vI 0) results10 F ?_
  refine⟨[],cd (bV _),am (fun z:Nat=>Value.int .i64 (z:Int)) (show 0=di d from Eq.symm ?_),F⟩
  rw[←hr,A0 (by omega)]
 have uB:=fun(w1:World) (hI:Inv w [oI b1 25 [(vI d.vars),(vI d.start),(.slice nb d.next.length nc),(.slice fb d.aT.length fc)]] w1)=>Tg w1 d.vars
 refine TO.lc Th (aO uB) ?_
 clear uB
 rintro v O' ⟨N,rfl,rfl,rfl⟩
 rw[a8 hv]
 refine aX g_ ?_
 refine bW ?_
 refine aQ (aR ?_)
 refine aF (vI 7) results10 F ?_
 refine⟨[],cd (bV _),am (fun z:Nat=>Value.int .i64 (z:Int)) (show 7=di d from Eq.symm ?_),F⟩
 unfold di
 rw[aB hv]
theorem JL (w:World) (b:Option Addr) (c:Nat) (xs:List Int) (h:Sl w b (ints xs)) (h0:0<xs.length) (hb:xs.length<9223372036854775807):cB prog 121 [.slice b xs.length c] w fun v N=>(∃m,v=vI m∧m∈xs∧ ∀x∈xs,m≤x)∧N=[]:=by
 refine aA func121 F ntmps121 F ?_
 refine aQ (aS (bq (ay (cL underlying56) (aX cV (aL F (fun hc=>?_) (fun hc=>?_))))))
 ·exact absurd hc (by omega)
 have adm: ¬xs.length<1:=by omega
 refine aE (bo (dB 0 underlying56 bM F F (a6 h)) (ae (dD underlying3 F F h gL) (aS (bq (aj (aK ?_))))))
 refine dU (fun(k:Nat) ρ O=> ∃(m:Int),O=[]∧1≤k∧k≤xs.length∧m∈xs.take k∧(∀x∈xs.take k,m≤x)∧dh [(0,(.slice b xs.length c)),(2,vI 0),(3,vI m),(4,vI (k:Int))] ρ) (fun k=>xs.length-k) 1 ?_ ?_
 ·refine⟨xs[0],F,aI _,h0,?_,?_,⟨F,F,F,F,trivial⟩⟩
  ·show xs[0]∈xs.take (0+1)
   rw[aC h0];simp
  ·show∀x∈xs.take (0+1),_
   rw[aC h0];simp
 rintro k ρ O ⟨m,rfl,hk1,hk,hm,ld,hH⟩
 obtain⟨gv,rfl⟩:=hH.elim
 clear hH
 refine br (a7 (ay (cL underlying56) (aX cV (aL F (fun hc=>?_) (fun hc=>?_)))))
 ·have ri:k<xs.length:=by omega
  refine aE (br (aK (a_ (de (ay (dB k underlying56 bM F F (a6 h)) (ae (dD underlying3 F F h gL) (ae (YP F F) (aj (a_ (ay (lF F F (by omega)) (aj ?_)))))))))))
  refine⟨k+1,by omega,if xs[k]<m then xs[k]else m,F,by omega,by omega,?_,?_,⟨F,F,F,F,trivial⟩⟩
  ·rw[aC ri];split
   ·exact ah _ (List.mem_singleton.2 F)
   ·exact aH _ hm
  ·rw[aC ri]
   intro x hx
   rcases List.mem_append.1 hx with hx|hx
   ·have:=ld x hx;split<;>omega
   ·rw[dl]at hx;subst hx;split<;>omega
 have Ti: ¬k<xs.length:=by omega
 refine cD ?_
 refine a7 (aj (cM ?_))
 refine aF (vI m) results121 F ?_
 rw[bt (by omega)]at hm ld
 exact⟨⟨m,F,hm,ld⟩,F⟩
theorem JM (w:World) (b:Option Addr) (c:Nat) (xs:List Int) (h:Sl w b (ints xs)) (h0:0<xs.length) (hb:xs.length<9223372036854775807):cB prog 122 [.slice b xs.length c] w fun v N=>(∃m,v=vI m∧m∈xs∧ ∀x∈xs,x≤m)∧N=[]:=by
 refine aA func122 F ntmps122 F ?_
 refine aQ (aS (bq (ay (cL underlying56) (aX cV (aL F (fun hc=>?_) (fun hc=>?_))))))
 ·exact absurd hc (by omega)
 have adm: ¬xs.length<1:=by omega
 refine aE (bo (dB 0 underlying56 bM F F (a6 h)) (ae (dD underlying3 F F h gL) (aS (bq (aj (aK ?_))))))
 refine dU (fun(k:Nat) ρ O=> ∃(m:Int),O=[]∧1≤k∧k≤xs.length∧m∈xs.take k∧(∀x∈xs.take k,x≤m)∧dh [(0,(.slice b xs.length c)),(2,vI 0),(3,vI m),(4,vI (k:Int))] ρ) (fun k=>xs.length-k) 1 ?_ ?_
 ·refine⟨xs[0],F,aI _,h0,?_,?_,⟨F,F,F,F,trivial⟩⟩
  ·show xs[0]∈xs.take (0+1)
   rw[aC h0];simp
  ·show∀x∈xs.take (0+1),_
   rw[aC h0];simp
 rintro k ρ O ⟨m,rfl,hk1,hk,hm,ld,hH⟩
 obtain⟨gv,rfl⟩:=hH.elim
 clear hH
 refine br (a7 (ay (cL underlying56) (aX cV (aL F (fun hc=>?_) (fun hc=>?_)))))
 ·have ri:k<xs.length:=by omega
  refine aE (br (aK (a_ (de (ay (dB k underlying56 bM F F (a6 h)) (ae (dD underlying3 F F h gL) (ae (YQ F F) (aj (a_ (ay (lF F F (by omega)) (aj ?_)))))))))))
  refine⟨k+1,by omega,if xs[k]>m then xs[k]else m,F,by omega,by omega,?_,?_,⟨F,F,F,F,trivial⟩⟩
  ·rw[aC ri];split
   ·exact ah _ (List.mem_singleton.2 F)
   ·exact aH _ hm
  ·rw[aC ri]
   intro x hx
   rcases List.mem_append.1 hx with hx|hx
   ·have:=ld x hx;split<;>omega
   ·rw[dl]at hx;subst hx;split<;>omega
 have Ti: ¬k<xs.length:=by omega
 refine cD ?_
 refine a7 (aj (cM ?_))
 refine aF (vI m) results122 F ?_
 rw[bt (by omega)]at hm ld
 exact⟨⟨m,F,hm,ld⟩,F⟩
theorem jP (w:World) (d:c_) (nb fb:Option Addr) (nc fc:Nat) (vs:List Value) (h:jg w d nb vs fb) (hb:d.next.length<9223372036854775807) (uv: ∀r∈d.next,r.length<9223372036854775807) (wM:d.aT.length<9223372036854775807):
  cB prog 83 [.agg (fe d nb nc fb fc).toArray] w fun v N=>v=vI (di d:Int)∧N=[]:=by
 refine aA func83 F ntmps83 F ?_
 have Qe:=h.rows.1
 let gn:Value:=(.slice nb d.next.length nc)
 refine aQ (ax (ef [(vI d.vars),(vI d.start),gn,(.slice fb d.aT.length fc)] (fun b1=>?_)))
 refine aj (aG (bu underlying25 fx) (ae (bF 0 underlying22) (ae (cL underlying22) (aj (br (aK (aG (bu underlying25 bM) (ae (bF 0 underlying3) ?_))))))))
 by_cases HM:d.vars<0
 ·refine ae (bn cV HM) ?_
  refine aN (cY (cK (ae bw (aj ?_))))
  refine bW ?_
  refine aQ (aR ?_)
  refine aF (vI 7) results83 F ?_
  refine⟨[],cd (bV _),am (fun z:Nat=>Value.int .i64 (z:Int)) (show 7=di d from Eq.symm ?_),F⟩
  unfold di
  rw[aB (by omega)]
 refine ae (aY cV HM) (aN (ao (bu underlying25 bM) (ao (bF 0 underlying3) ?_)))
 by_cases QQ:6<d.vars
 ·refine ao (bn gT QQ) ?_
  refine ae bU (aj ?_)
  refine bW ?_
  refine aQ (aR ?_)
  refine aF (vI 7) results83 F ?_
  refine⟨[],cd (bV _),am (fun z:Nat=>Value.int .i64 (z:Int)) (show 7=di d from Eq.symm ?_),F⟩
  unfold di
  rw[aB (by omega)]
 refine ao (aY gT QQ) (ae bU (aj (bf (bo bN (aj (aL F (fun hc=>?_) (fun hc=>?_)))))))
 ·have Tj:d.next.length=0:=by omega
  refine aQ (aR ?_)
  refine aF (vI 3) results83 F ?_
  refine⟨[],cd (bV _),am (fun z:Nat=>Value.int .i64 (z:Int)) (show 3=di d from Eq.symm ?_),F⟩
  unfold di
  rw[aq (by simp;omega),aB Tj]
 have A3: ¬d.next.length=0:=by omega
 refine bo gT (aj (aL F (fun hc=>?_) (fun hc=>?_)))
 ·have re:d.next.length>4096:=by omega
  refine aQ (aR ?_)
  refine aF (vI 4) results83 F ?_
  refine⟨[],cd (bV _),am (fun z:Nat=>Value.int .i64 (z:Int)) (show 4=di d from Eq.symm ?_),F⟩
  unfold di
  rw[aq (by simp;omega),aq A3,aB re]
 have rh: ¬d.next.length>4096:=by omega
 refine aG (bu underlying25 e7) (ae (bF 0 underlying23) (ae (cL underlying23) (ay d_ (aj (aL F (fun hc=>?_) (fun hc=>?_))))))
 ·have j4:d.aT.length≠d.next.length:=by omega
  refine aQ (aR ?_)
  refine aF (vI 2) results83 F ?_
  refine⟨[],cd (bV _),am (fun z:Nat=>Value.int .i64 (z:Int)) (show 2=di d from Eq.symm ?_),F⟩
  unfold di
  rw[aq (by simp;omega),aq A3,aq rh,aB j4]
 have A4: ¬d.aT.length≠d.next.length:=by omega
 refine aG (bu underlying25 bM) (ae (bF 0 underlying3) ?_)
 by_cases yr:d.start<0
 ·refine ae (bn cV yr) ?_
  refine aN (du (ae bw (aj ?_)))
  refine bW ?_
  refine aQ (aR ?_)
  refine aF (vI 8) results83 F ?_
  refine⟨[],cd (bV _),am (fun z:Nat=>Value.int .i64 (z:Int)) (show 8=di d from Eq.symm ?_),F⟩
  unfold di
  rw[aq (by simp;omega),aq A3,aq rh,aq (by simpa using A4),aB (by omega)]
 refine ae (aY cV yr) (aN (ao (bu underlying25 bM) (ao (bF 0 underlying3) (ao aw ?_))))
 by_cases Gf:(d.next.length:Int)≤d.start
 ·refine ao (bn km Gf) ?_
  refine ae bU (aj ?_)
  refine bW ?_
  refine aQ (aR ?_)
  refine aF (vI 8) results83 F ?_
  refine⟨[],cd (bV _),am (fun z:Nat=>Value.int .i64 (z:Int)) (show 8=di d from Eq.symm ?_),F⟩
  unfold di
  rw[aq (by simp;omega),aq A3,aq rh,aq (by simpa using A4),aB (by omega)]
 refine ao (aY km Gf) (ae bU (aj (bf (aE (br (aG (bu underlying25 fx) (ae (bF 0 underlying22) (ae (cL underlying22) (bH (aK ?_))))))))))
 let fR:Lx.Item:=oI b1 25 [(vI d.vars),(vI d.start),(.slice nb d.next.length nc),(.slice fb d.aT.length fc)]
 refine dU (fun(k:Nat) ρ O=>O=[fR]∧k≤d.next.length∧th (2^d.vars.toNat) d.next.length (d.next.drop k)=di d∧dh [(0,(.agg #[(vI d.vars),(vI d.start),gn,(.slice fb d.aT.length fc)])),(1,(.pointer (aD b1))),(3,vI (d.next.length:Int)),(9,.bool false),(18,.bool (decide ((d.next.length:Int)=0))),(21,.bool (decide ((d.next.length:Int)>4096))),(24,.bool (decide ((d.aT.length:Int)≠(d.next.length:Int)))),(30,.bool false),(41,gn),(42,vI (d.next.length:Int)),(43,vI (k:Int))] ρ) (fun k=>d.next.length-k) 0 ?_ ?_
 ·refine⟨F,bj _,?_,(.of F)⟩
  unfold di
  rw[aq (by simp;omega),aq A3,aq rh,aq (by simpa using A4),aq (by omega)];rfl
 rintro k ρ O ⟨rfl,hk,hr,hH⟩
 obtain⟨gv,rfl⟩:=hH.elim
 clear hH
 refine aG cV (dJ (aL F (fun hc=>?_) (fun hc=>?_)))
 ·have nv:k<d.next.length:=by omega
  obtain⟨YM,YN,g1,s1⟩:=h.rows.get nv
  have L5:=uv _ (av nv)
  refine aE (br (aK (aG (dB k underlying22 eo F F (a6 h.outer)) (ae (dD underlying56 F F h.outer g1) (aS (bq (ay (cL underlying56) (ae (bu underlying25 bM) (ae (bF 0 underlying3) (ae (o8 (v:=d.vars.toNat) F (by show Value.int _ d.vars=_;rw[cW (by omega)]) (by omega)) (aX d_ (aL F (fun hc=>?_) (fun hc=>?_)))))))))))))
  ·have Tk:d.next[k].length≠2^d.vars.toNat:=by omega
   refine aQ (aR ?_)
   refine aF (vI 2) results83 F ?_
   refine⟨[],cd (bV _),am (fun z:Nat=>Value.int .i64 (z:Int)) (show 2=di d from Eq.symm ?_),F⟩
   rw[←hr,mT nv,aB Tk]
  have HN: ¬d.next[k].length≠2^d.vars.toNat:=by omega
  have Tl:0<d.next[k].length:=by
   have:=Nat.pow_pos (n:=d.vars.toNat) (show 0<2 by omega)
   omega
  refine aE (a7 ?_)
  have L9:=fun(w1:World) (hI:Inv w [fR] w1)=>JL w1 YM YN d.next[k] (hI.sl s1) Tl L5
  refine TO.lc UX (aO L9) ?_
  clear L9
  rintro v O' ⟨N,rfl,⟨m1,rfl,hm1,YR⟩,rfl⟩
  by_cases HL:m1<0
  ·refine ae (bn cV HL) ?_
   refine aN (du (aX bw ?_))
   refine bW ?_
   refine aQ (aR ?_)
   refine aF (vI 8) results83 F ?_
   refine⟨[],cd (bV _),am (fun z:Nat=>Value.int .i64 (z:Int)) (show 8=di d from Eq.symm ?_),F⟩
   rw[←hr,mT nv,aq (by simpa using HN),aq ?_]
   intro hh
   simp only[nu,fp,ar,cj]at hh
   have:=hh _ hm1;omega
  refine ae (aY cV HL) (aN (ao aw ?_))
  have L_:=fun(w1:World) (hI:Inv w [fR] w1)=>JM w1 YM YN d.next[k] (hI.sl s1) Tl L5
  refine gF F F F (eh UY (aO L_) ?_)
  clear L_
  rintro v O' ⟨N,rfl,⟨m2,rfl,Dq,YS⟩,rfl⟩
  refine ao aw ?_
  by_cases UW:(d.next.length:Int)≤m2
  ·refine ao (bn km UW) ?_
   refine aX bU ?_
   refine bW ?_
   refine aQ (aR ?_)
   refine aF (vI 8) results83 F ?_
   refine⟨[],cd (bV _),am (fun z:Nat=>Value.int .i64 (z:Int)) (show 8=di d from Eq.symm ?_),F⟩
   rw[←hr,mT nv,aq (by simpa using HN),aq ?_]
   intro hh
   simp only[nu,fp,ar,cj]at hh
   have:=hh _ Dq;omega
  refine ao (aY km UW) (aX bU (bf (aE (a_ (ae (lF F F (by omega)) (bH ?_))))))
  refine⟨k+1,by omega,F,by omega,?_,(.of F)⟩
  rw[←hr,mT nv,aq (by simpa using HN),aB ?_]
  simp only[nu,fp,ar,cj]
  intro x hx
  have:=YR x hx;have:=YS x hx;omega
 have Tm: ¬k<d.next.length:=by omega
 refine cD ?_
 refine aQ (aR ?_)
 refine aF (vI 0) results83 F ?_
 refine⟨[],cd (bV _),am (fun z:Nat=>Value.int .i64 (z:Int)) (show 0=di d from Eq.symm ?_),F⟩
 rw[←hr,A0 (by omega)]
open Go.ChangeShapes Go.WideShapes Go.ChangeAt Go.RowKit Go.Lx _root_.Go.Proofs.Tryz
set_option maxRecDepth 100000
theorem own:ownKnob Tryz.prog.godebug=none:=by kernel_rfl
theorem laidOut:laidOutB prog=true:=by kernel_rfl
theorem L2:Tryz.prog.readableRec 3=true:=by kernel_rfl
theorem lt3:3<Tryz.prog.types.size:=of_decide_eq_true (by kernel_rfl)
theorem QP:Tryz.prog.readableRec 43=true:=by kernel_rfl
theorem adk:43<Tryz.prog.types.size:=of_decide_eq_true (by kernel_rfl)
theorem Ib:Tryz.prog.cellsOf 5=1:=by kernel_rfl
theorem RC:0<Tryz.prog.bytesOf 5:=of_decide_eq_true (by kernel_rfl)
theorem RD:Tryz.prog.cellsOf 3=1:=by kernel_rfl
theorem QO:Tryz.prog.readableRec 32=true:=by kernel_rfl
theorem adj:32<Tryz.prog.types.size:=of_decide_eq_true (by kernel_rfl)
theorem RE:Tryz.prog.cellsOf 72=5:=by kernel_rfl
theorem RG:0<Tryz.prog.bytesOf 72:=of_decide_eq_true (by kernel_rfl)
theorem adi {n:Nat} (h:n≤reachBytes):n<4611686018427387904:=kG h (by decide)
theorem UV {H:Type} {enc:TypeId×Value→H} {W:World} {r:Reach} {base:Nat} {v:Value} {d:DataW H} {p:List MemPlace} (nm:Value.okWide prog W r base 32 v) (hw: ∀m∈d.weights prog 32,m≤reachBytes) (h:DataW.Trod enc prog W 0 (fun _=>true) true 32 v d p):
  ∃(b:Option Addr) (cp:Nat) (es:List ei),v=.slice b es.length cp∧es.length≤reachBytes∧es.length≤cp∧Sl W b (bX es)∧ ∀x∈es,x.p<256∧x.n<256:=
 QS underlying32 underlying72 RE RG F F F F F F F F F F underlying3 underlying5 RD Ib nm hw h
def M_ (cs:Array Value):Obj→Obj
 | .cells _ t frozen=>.cells cs t frozen
 |o=>o
theorem YK {H:Type} {enc:TypeId×Value→H} {W:World} {r:Reach} {base:Nat} {v:Value} {d:DataW H} {p:List MemPlace} (nm:Value.okWide prog W r base 43 v) (hw: ∀m∈d.weights prog 43,m≤reachBytes) (h:DataW.Trod enc prog W 0 (fun _=>true) true 43 v d p):
  ∃(l:List Nat) (b:Option Addr) (c:Nat),v=.slice b l.length c∧(Sl W b (nY l)∧ ∀x∈l,x<256)∧l.length≤reachBytes:=
 JN underlying43 underlying5 Ib RC nm hw h
noncomputable def vO (os:Os):World:=
 {World.holding prog os ⟨#[],#[],[]⟩with heap:=((((World.holding prog os ⟨#[],#[],[]⟩).heap.modify 0 (M_ #[.int .u64 1,.int .u64 10,.int .u64 100,.int .u64 1000,.int .u64 10000,.int .u64 100000,.int .u64 1000000,.int .u64 10000000,.int .u64 100000000,.int .u64 1000000000,.int .u64 10000000000,.int .u64 100000000000,.int .u64 1000000000000,.int .u64 10000000000000,.int .u64 100000000000000,.int .u64 1000000000000000,.int .u64 10000000000000000,.int .u64 100000000000000000,.int .u64 1000000000000000000,.int .u64 10000000000000000000])).modify 1 (M_ #[.int .u8 0,.int .u8 1,.int .u8 28,.int .u8 2,.int .u8 29,.int .u8 14,.int .u8 24,.int .u8 3,.int .u8 30,.int .u8 22,.int .u8 20,.int .u8 15,.int .u8 25,.int .u8 17,.int .u8 4,.int .u8 8,.int .u8 31,.int .u8 27,.int .u8 13,.int .u8 23,.int .u8 21,.int .u8 19,.int .u8 16,.int .u8 7,.int .u8 26,.int .u8 12,.int .u8 18,.int .u8 6,.int .u8 11,.int .u8 5,.int .u8 10,.int .u8 9])).modify 2 (M_ #[.int .u8 0,.int .u8 1,.int .u8 56,.int .u8 2,.int .u8 57,.int .u8 49,.int .u8 28,.int .u8 3,.int .u8 61,.int .u8 58,.int .u8 42,.int .u8 50,.int .u8 38,.int .u8 29,.int .u8 17,.int .u8 4,.int .u8 62,.int .u8 47,.int .u8 59,.int .u8 36,.int .u8 45,.int .u8 43,.int .u8 51,.int .u8 22,.int .u8 53,.int .u8 39,.int .u8 33,.int .u8 30,.int .u8 24,.int .u8 18,.int .u8 12,.int .u8 5,.int .u8 63,.int .u8 55,.int .u8 48,.int .u8 27,.int .u8 60,.int .u8 41,.int .u8 37,.int .u8 16,.int .u8 46,.int .u8 35,.int .u8 44,.int .u8 21,.int .u8 52,.int .u8 32,.int .u8 23,.int .u8 11,.int .u8 54,.int .u8 26,.int .u8 40,.int .u8 15,.int .u8 34,.int .u8 20,.int .u8 31,.int .u8 10,.int .u8 25,.int .u8 14,.int .u8 19,.int .u8 9,.int .u8 13,.int .u8 8,.int .u8 7,.int .u8 6]))}
theorem YL {W:World} (hL:laidMetH prog [("math/bits.deBruijn32tab",Rows.laid_math_bits_deBruijn32tab),("math/bits.deBruijn64tab",Rows.laid_math_bits_deBruijn64tab),("internal/strconv.uint64pow10",Rows.laid_internal_strconv_uint64pow10)] W):dQ prog W:=by
 have h:laidMet prog [("math/bits.deBruijn32tab",Rows.laid_math_bits_deBruijn32tab),("math/bits.deBruijn64tab",Rows.laid_math_bits_deBruijn64tab),("internal/strconv.uint64pow10",Rows.laid_internal_strconv_uint64pow10)] W:=hL
 obtain⟨ps,h,_⟩:=h
 have hz:=h
 obtain⟨_,h⟩:=pe h
 obtain⟨_,h⟩:=pe h
 obtain⟨_,hz⟩:=pe hz
 exact dQ.of (tv (g:=0) (t:=282) (e:=256) (n:=20) (by kernel_rfl) (by kernel_rfl) (by kernel_rfl) underlying282 underlying256 (by kernel_rfl) (by kernel_rfl) h) (.inr (tv (g:=2) (t:=298) (e:=5) (n:=64) (by kernel_rfl) (by kernel_rfl) (by kernel_rfl) underlying298 underlying5 (by kernel_rfl) (by kernel_rfl) hz))
theorem Lb (base:World) [dQ prog base] (b:Option Addr) (c:Nat) (xs:List Nat) (hS:Sl base b (nY xs)) (hb:xs.length<9223372036854775807) (fv:Value) (p:Nat→Bool) (OO:List Lx.Item) (hy: ∀x∈xs,fh prog base fv [.int .u8 (x:Int)] OO (fun v O'=>v=.bool (p x)∧O'=OO)):
  cx prog base 128 [.slice b xs.length c,fv] OO (fun v O'=> ∃i:Int,v=vI i∧decide (i≥0)=xs.any p∧O'=OO):=by
 refine aA func128 F ntmps128 F ?_
 refine aQ (aS (bq (ay (cL underlying43) (bH (aK ?_)))))
 refine dU (fun(k:Nat) ρ O=>O=OO∧k≤xs.length∧(xs.take k).any p=false∧dh [(0,(.slice b xs.length c)),(1,fv),(7,vI (xs.length:Int)),(8,vI (k:Int))] ρ) (fun k=>xs.length-k) 0 ?_ ?_
 ·exact⟨F,bj _,F,⟨F,F,F,F,trivial⟩⟩
 rintro k ρ O ⟨rfl,hk,iO,hH⟩
 obtain⟨gv,rfl⟩:=hH.elim
 clear hH
 refine aG cV (dJ (aL F (fun hc=>?_) (fun hc=>?_)))
 ·have lQ:k<xs.length:=by omega
  refine aE (br (aK (a7 (aj (a7 (aN (ay (dB k underlying43 eN F F (a6 hS) lQ (by rw[ai];exact lQ)) (ae (dD underlying5 F F hS (yH lQ)) ?_))))))))
  have rP:=hy xs[k] (av lQ)
  refine ax (fT rP F F ?_)
  clear rP
  rintro v O' ⟨rfl,rfl⟩
  refine bi (T.cond F (fun hc=>?_) (fun hc=>?_))
  ·refine br ?_
   refine a_ (aN (aR ?_))
   refine aF (vI (k:Int)) results128 F ?_
   exact⟨_,cd (aP _),k,F,by rw[Vk lQ hc];exact aZ (by omega),F⟩
  refine aE (a_ (ae (lF F F (by omega)) (bH ?_)))
  exact⟨k+1,by omega,F,by omega,Mz lQ iO hc,⟨F,F,F,F,trivial⟩⟩
 have Nd: ¬k<xs.length:=by omega
 refine cD ?_
 refine aQ (aR ?_)
 refine aF (vI (-1)) results128 F ?_
 exact⟨_,cd (aP _), -1,F,by rw[bt (by omega)]at iO;rw[iO];decide,F⟩
theorem vC (base:World) [dQ prog base] (b:Option Addr) (c:Nat) (xs:List Nat) (hS:Sl base b (nY xs)) (hb:xs.length<9223372036854775807) (fv:Value) (p:Nat→Bool) (OO:List Lx.Item) (hy: ∀x∈xs,fh prog base fv [.int .u8 (x:Int)] OO (fun v O'=>v=.bool (p x)∧O'=OO)):
  cx prog base 91 [.slice b xs.length c,fv] OO (fun v O'=>v=.bool (xs.any p)∧O'=OO):=by
 refine aA func91 F ntmps91 F ?_
 refine aQ (aj (a7 (aN ?_)))
 have Eb:=Lb base b c xs hS hb fv p OO hy
 refine TO.lc W9 Eb ?_
 clear Eb
 rintro v O' ⟨i,rfl,hi,rfl⟩
 refine ae km (aR ?_)
 refine aF (.bool (decide (i≥0))) results91 F ?_
 exact⟨_,cd (aP _),am Value.bool hi,F⟩
theorem Fy (base:World) [dQ prog base] (d:c_) (nb fb:Option Addr) (nc fc:Nat) (HM:0≤d.vars) (QQ:d.vars≤6) (bx x:Nat) (hx:x<256):
  cx prog base 94 [.int .u8 (x:Int),.pointer (aD bx)] [oI bx 25 [(vI d.vars),(vI d.start),(.slice nb d.next.length nc),(.slice fb d.aT.length fc)]] (fun v O'=>v=.bool (decide (2^d.vars.toNat≤x))∧O'=[oI bx 25 [(vI d.vars),(vI d.start),(.slice nb d.next.length nc),(.slice fb d.aT.length fc)]]):=by
 refine aA func94 F ntmps94 F ?_
 refine aQ (aj (bo (gi underlying5 underlying3 F (gX ⟨by omega,by omega⟩)) (ae (bu underlying25 bM) (ae (bF 0 underlying3) (ae (o8 (v:=d.vars.toNat) F (by show Value.int _ d.vars=_;rw[cW HM]) (by omega)) (ae km (aj (cM ?_))))))))
 refine aF (.bool (decide ((x:Int)≥((2^d.vars.toNat:Nat):Int)))) results94 F ?_
 exact⟨am Value.bool (decide_eq_decide.2 (by omega)),F⟩
theorem afC (w:World) [dQ prog w] (d:c_) (nb fb:Option Addr) (nc fc:Nat) (vs:List Value) (h:jg w d nb vs fb) (hv:Valid d) (wb:Option Addr) (wc:Nat) (l:List Nat) (hW:Sl w wb (nY l)) (YD:l.length<9223372036854775807) (SD:Wd d l):
  cB prog 95 [.agg (fe d nb nc fb fc).toArray,.slice wb l.length wc] w fun v N=>v=vI ((Lx.runN d d.start.toNat l:Nat):Int)∧N=[]:=by
 refine aA func95 F ntmps95 F ?_
 have yr:=hv.s0
 have Gf:=hv.s1
 have Qe:=h.rows.1
 let eH:Value:=(.slice fb d.aT.length fc)
 let gd:Value:=(.slice nb d.next.length nc)
 refine aQ (ax (ef [(vI d.vars),(vI d.start),gd,eH] (fun b1=>?_)))
 refine aj (aG (bu underlying146 bY) (ae (bu underlying25 bM) (ae (cg (bF 0 underlying3) (v':=vI ((Lx.runN d d.start.toNat (l.take 0):Nat):Int)) (by show Value.int _ d.start=_;rw[show Lx.runN d d.start.toNat (l.take 0)=d.start.toNat from F,cW yr])) (aS (bq (ay (cL underlying43) (bH (aK ?_))))))))
 refine dU (fun(k:Nat) ρ O=>O=[oI b1 146 [(vI d.vars),(vI d.start),gd,eH]]∧k≤l.length∧dh [(0,(.agg #[(vI d.vars),(vI d.start),gd,eH])),(1,(.slice wb l.length wc)),(2,(.pointer (aD b1))),(4,vI 0),(5,vI ((Lx.runN d d.start.toNat (l.take k):Nat):Int)),(11,(.slice wb l.length wc)),(12,vI (l.length:Int)),(13,vI (k:Int))] ρ) (fun k=>l.length-k) 0 ?_ ?_
 ·exact⟨F,bj _,(.of F)⟩
 rintro k ρ O ⟨rfl,hk,hH⟩
 obtain⟨gv,rfl⟩:=hH.elim
 clear hH
 refine aG cV (dJ (aL F (fun hc=>?_) (fun hc=>?_)))
 ·have oL:k<l.length:=by omega
  obtain⟨o,ho⟩: ∃o,Lx.runN d d.start.toNat (l.take k)=o:=⟨_,F⟩
  have ho9:o<d.next.length:=by rw[←ho];exact kj hv.toVal (by omega) _ (fun x hx=>SD x (List.mem_of_mem_take hx))
  have hlx:l[k]<2^d.vars.toNat:=SD _ (av oL)
  obtain⟨vb,vc,g1,s1⟩:=h.rows.get ho9
  have Nf:d.next[o].length=2^d.vars.toNat:=hv.len _ (av ho9)
  obtain⟨hta,_,afD,R7⟩:=hv.iw ho9 hlx
  have R7:(ints d.next[o])[l[k]]? =some (vI ((fm d o l[k]:Nat):Int)):=by rw[gL afD,R7]
  refine aE (br (aK (aG (dB k underlying43 eN F F (a6 hW) oL (by rw[ai];exact oL)) (ae (dD underlying5 F F hW (yH oL)) (aj (a_ (ae (bu underlying146 bY) (ae (bu underlying25 fx) (ae (bF 0 underlying22) (ae (cg aw (v':=vI ((o:Nat):Int)) (by show Value.int _ _=_;rw[ho])) (ae (dB o underlying22 eo F F (a6 h.outer) ho9 (Qe▸ho9)) (ae (dD underlying56 F F h.outer g1) (ay (dB (l[k]) underlying56 bM F F (a6 s1) (by rw[Nf];exact hlx) (by rw[ai,Nf];exact hlx)) (ae (dD underlying3 F F s1 R7) (aj (a_ (ae (lF F F (by omega)) (aN ?_))))))))))))))))))
  refine bi ?_
  refine⟨k+1,by omega,F,by omega,?_⟩
  rw[Lc oL,ho];exact(.of F)
 have pk: ¬k<l.length:=by omega
 refine cD ?_
 refine a7 (aR ?_)
 refine aF (vI ((Lx.runN d d.start.toNat (l.take k):Nat):Int)) results95 F ?_
 have Yr:k=l.length:=by omega
 exact⟨[],cd (bV _),by rw[bt (by omega)],F⟩
theorem afE (w:World) [dQ prog w] (d:c_) (nb fb:Option Addr) (nc fc:Nat) (vs:List Value) (h:jg w d nb vs fb) (hb:d.next.length<9223372036854775807) (uv: ∀r∈d.next,r.length<9223372036854775807) (wM:d.aT.length<9223372036854775807) (wb:Option Addr) (wc:Nat) (l:List Nat) (hW:Sl w wb (nY l)) (YD:l.length<9223372036854775807) (xM: ∀x∈l,x<256):
  cB prog 58 [.agg (fe d nb nc fb fc).toArray,.slice wb l.length wc] w fun v N=>v=.tuple #[vI ((xP d l:Nat):Int),vI ((k_ d l:Nat):Int)]∧N=[]:=by
 refine aA func58 F ntmps58 F ?_
 refine aQ (ax (ef [(vI d.vars),(vI d.start),(.slice nb d.next.length nc),(.slice fb d.aT.length fc)] (fun b1=>?_)))
 refine aS (aS (bq (ae (eR 0 underlying25 bY) ?_)))
 let fR:List Lx.Item:=[oI b1 25 [(vI d.vars),(vI d.start),(.slice nb d.next.length nc),(.slice fb d.aT.length fc)]]
 have rI:=fun(w1:World) (hI:Inv w fR w1)=>(haveI:=Inv.tab (P:=prog) hI;jP w1 d nb fb nc fc vs (hI.Dz h) hb uv wM)
 refine TO.lc xj (aO rI) ?_
 clear rI
 rintro v O' ⟨N,rfl,rfl,rfl⟩
 refine aj (a7 ?_)
 by_cases hE:(di d:Int)≠0
 ·refine ae (bn d_ hE) ?_
  refine bi ?_
  refine bW ?_
  refine a7 (aS (aR ?_))
  refine dr (vI 0) (vI (di d:Int)) results58 F F ?_
  have XL:k_ d l=di d:=by unfold k_;rw[aB (by omega)]
  have LZ: ¬k_ d l=0:=by omega
  exact⟨[],cd (bV _),by unfold xP;rw[aq LZ,XL];try rfl,F⟩
 refine aX (aY d_ hE) (bf (aE (br (aK (br ?_)))))
 have he:di d=0:=by omega
 have hv:Valid d:=eL.1 he
 refine a_ (ay (cL underlying43) ?_)
 by_cases XM:(l.length:Int)>64
 ·refine ae (bn gT XM) ?_
  refine aj ?_
  refine bW ?_
  refine aQ (aS (aR ?_))
  refine dr (vI 0) (vI 4) results58 F F ?_
  have XL:k_ d l=4:=by unfold k_;rw[aq (by simp[he]),aB (by omega)]
  have LZ: ¬k_ d l=0:=by omega
  exact⟨[],cd (bV _),by unfold xP;rw[aq LZ,XL];try rfl,F⟩
 refine ae (aY gT XM) (aj (bf (bo (fI) ?_)))
 by_cases iO:l.any (fun x=>decide (2^d.vars.toNat≤x))=true
 ·have oh:=(vC w wb wc l hW YD (.func (.func 94) #[] #[.pointer (aD b1)]) (fun x=>decide (2^d.vars.toNat≤x)) fR (fun x hx=>cZ (first:=[]) (args:=[.int .u8 (x:Int)]) (gU:=[.pointer (aD b1)]) Uu (Fy w d nb fb nc fc hv.v0 hv.v6 b1 x (xM x hx)))).mono (fun v O' hh=>(⟨hh.1.trans (am Value.bool ((show∀b:Bool,b=decide (b=true)from fun b=>by cases b<;>rfl) _)),hh.2⟩:v=.bool (decide (l.any (fun x=>decide (2^d.vars.toNat≤x))=true))∧O'=fR))
  refine TO.lc Ut oh ?_
  clear oh
  rintro v O' ⟨rfl,rfl⟩
  rw[aZ iO]
  refine aj ?_
  refine bW ?_
  refine aQ (aS (aR ?_))
  refine dr (vI 0) (vI 1) results58 F F ?_
  have XL:k_ d l=1:=by unfold k_;rw[aq (by simp[he]),aq (by omega),aB iO]
  have LZ: ¬k_ d l=0:=by omega
  exact⟨[],cd (bV _),by unfold xP;rw[aq LZ,XL];try rfl,F⟩
 have oh:=(vC w wb wc l hW YD (.func (.func 94) #[] #[.pointer (aD b1)]) (fun x=>decide (2^d.vars.toNat≤x)) fR (fun x hx=>cZ (first:=[]) (args:=[.int .u8 (x:Int)]) (gU:=[.pointer (aD b1)]) Uu (Fy w d nb fb nc fc hv.v0 hv.v6 b1 x (xM x hx)))).mono (fun v O' hh=>(⟨hh.1.trans (am Value.bool ((show∀b:Bool,b=decide (b=true)from fun b=>by cases b<;>rfl) _)),hh.2⟩:v=.bool (decide (l.any (fun x=>decide (2^d.vars.toNat≤x))=true))∧O'=fR))
 refine TO.lc Ut oh ?_
 clear oh
 rintro v O' ⟨rfl,rfl⟩
 rw[a8 iO]
 refine aj (bf (aE (br ?_)))
 have LZ:k_ d l=0:=by unfold k_;rw[aq (by simp[he]),aq (by omega),aq iO]
 have SD:Wd d l:=(v7.1 LZ).2.2
 refine a_ (ae (eR 0 underlying25 bY) (ae (dc [(vI d.vars),(vI d.start),(.slice nb d.next.length nc),(.slice fb d.aT.length fc)] Sf W1 (by kernel_rfl)) (ae (fI) (aj (a7 (aN ?_))))))
 have Pd:=cZ (first:=[.agg (fe d nb nc fb fc).toArray]) (args:=[.slice wb l.length wc]) (gU:=[]) abB (aO (fun w1 (hI:Inv w fR w1)=>haveI:=Inv.tab (P:=prog) hI;afC w1 d nb fb nc fc vs (hI.Dz h) hv wb wc l (hI.sl hW) YD SD))
 refine ax (fT Pd F F ?_)
 clear Pd
 rintro v O' ⟨N,rfl,rfl,rfl⟩
 refine aS (aR ?_)
 refine dr (vI ((Lx.runN d d.start.toNat l:Nat):Int)) (vI 0) results58 F F ?_
 have XL:=LZ
 exact⟨[],cd (bV _),by unfold xP;rw[aB LZ,XL];try rfl,F⟩
theorem D9 (w:World) [dQ prog w] (d:c_) (nb fb:Option Addr) (nc fc:Nat) (vs:List Value) (h:jg w d nb vs fb) (hb:d.next.length<9223372036854775807) (uv: ∀r∈d.next,r.length<9223372036854775807) (wM:d.aT.length<9223372036854775807) (wb:Option Addr) (wc:Nat) (l:List Nat) (hW:Sl w wb (nY l)) (YD:l.length<9223372036854775807) (xM: ∀x∈l,x<256):
  cB prog 29 [.agg (fe d nb nc fb fc).toArray,.slice wb l.length wc] w fun v N=>v=.tuple #[.bool (Av d l),vI ((k_ d l:Nat):Int)]∧N=[]:=by
 refine aA func29 F ntmps29 F ?_
 refine aQ (ax (ef [(vI d.vars),(vI d.start),(.slice nb d.next.length nc),(.slice fb d.aT.length fc)] (fun b1=>?_)))
 refine aS (aj (aG (eR 0 underlying25 bY) (aN ?_)))
 have uB:=fun(w1:World) (hI:Inv w [oI b1 25 [(vI d.vars),(vI d.start),(.slice nb d.next.length nc),(.slice fb d.aT.length fc)]] w1)=>(haveI:=Inv.tab (P:=prog) hI;afE w1 d nb fb nc fc vs (hI.Dz h) hb uv wM wb wc l (hI.sl hW) YD xM)
 refine TO.lc abu (aO uB) ?_
 clear uB
 rintro v O' ⟨N,rfl,rfl,rfl⟩
 refine ay (bI _) (ae (bI _) (aS (aj (br ?_))))
 have Cs:k_ d l=0→xP d l<d.aT.length:=fun h0=>by
  obtain⟨hv,_,SD⟩:=v7.1 h0
  unfold xP;rw[aB h0,hv.fin]
  exact kj hv.toVal (by have:=hv.s0;have:=hv.s1;omega) _ SD
 refine a_ (aN ?_)
 by_cases h0:((k_ d l:Nat):Int)=0
 ·refine ae (bn bN h0) ?_
  refine aN (ao (bu underlying25 e7) (ao (bF 0 underlying23) (ao aw (ao (dB ((xP d l)) underlying23 gq F F (a6 h.aT) (Cs (by omega)) (by rw[ai];exact Cs (by omega))) (ao (dD underlying4 F F h.aT (show(cO d.aT)[xP d l]? =some (.bool (dR d (xP d l))) by rw[j9 (Cs (by omega))];simp[dR,Cs (by omega)])) (ae bw (aN (aS (aR ?_)))))))))
  refine dr (.bool (dR d (xP d l))) (vI ((k_ d l:Nat):Int)) results29 F F ?_
  have h9:k_ d l=0:=by omega
  exact⟨[],cd (bV _),by unfold Av xP;rw[aB h9,aB h9],F⟩
 refine ae (aY bN h0) (aN (cY (du (ae bU (aN (aS (aR ?_)))))))
 refine dr (.bool false) (vI ((k_ d l:Nat):Int)) results29 F F ?_
 have h9: ¬k_ d l=0:=by omega
 exact⟨[],cd (bV _),by unfold Av;rw[aq h9],F⟩
end Go.Proofs.YtgdbfideeeegmaaGreatDoor

namespace Go.Proofs
open Go.Shelf
def Tryz.Fz:Go.Shelf.Ren:=⟨fun|283=>214|n=>n,fun|3=>3|9=>9|4=>4|n=>n,fun|n=>n⟩
theorem Tryz.SP:Go.Proofs.Lays.n283 Tryz.prog Tryz.Fz:= {
 mixed:=by kernel_rfl
 f283:=Tryz.func214.trans (am some (by kernel_rfl))
 t3:=Tryz.underlying3
 a3:=Tryz.isAgg3
 z3:=Tryz.sizeOf3
 v3:=Tryz.zeroValue3
 t4:=Tryz.underlying4
 a4:=Tryz.isAgg4
 z4:=Tryz.sizeOf4
 v4:=Tryz.zeroValue4
 t9:=Tryz.underlying9
 a9:=Tryz.isAgg9
 z9:=Tryz.sizeOf9
 v9:=Tryz.zeroValue9}
open Go.RowKit Go.Sort Go.Lib in
theorem Tryz.internal_strconv_small (i:Nat) (h:i<100) (w:World):
  Calls Tryz.prog 214 #[.int .i64 i] w fun e w'=>e=.returned (.string ⟨(Lib.decDigits i).toArray⟩)∧w'=w:=Any.internal_strconv_small Tryz.SP i h w
def Tryz.C3:Go.Shelf.Ren:=⟨fun|284=>215|129=>209|317=>241|318=>242|n=>n,fun|53=>256|3=>3|212=>282|0=>0|4=>4|46=>101|5=>5|9=>9|n=>n,fun|17=>0|n=>n⟩
theorem Tryz.PI:Go.Proofs.LaysM.n284 Tryz.prog Tryz.C3:= {
 mixed:=by kernel_rfl
 f129:=Tryz.func209.trans (am some (by kernel_rfl))
 f284:=Tryz.func215.trans (am some (by kernel_rfl))
 f317:=Tryz.func241.trans (am some (by kernel_rfl))
 f318:=Tryz.func242.trans (am some (by kernel_rfl))
 t0:=Tryz.underlying0
 a0:=Tryz.isAgg0
 z0:=Tryz.sizeOf0
 v0:=Tryz.zeroValue0
 t3:=Tryz.underlying3
 a3:=Tryz.isAgg3
 z3:=Tryz.sizeOf3
 v3:=Tryz.zeroValue3
 t4:=Tryz.underlying4
 a4:=Tryz.isAgg4
 z4:=Tryz.sizeOf4
 v4:=Tryz.zeroValue4
 t5:=Tryz.underlying5
 a5:=Tryz.isAgg5
 z5:=Tryz.sizeOf5
 v5:=Tryz.zeroValue5
 t9:=Tryz.underlying9
 a9:=Tryz.isAgg9
 z9:=Tryz.sizeOf9
 v9:=Tryz.zeroValue9
 t46:=Tryz.underlying101
 a46:=Tryz.isAgg101
 z46:=Tryz.sizeOf101
 v46:=Tryz.zeroValue101
 t53:=Tryz.underlying256
 a53:=Tryz.isAgg256
 z53:=Tryz.sizeOf256
 v53:=Tryz.zeroValue256
 t212:=Tryz.underlying282
 a212:=Tryz.isAgg282
 z212:=Tryz.sizeOf282
 v212:=Tryz.zeroValue282
 g17:=by kernel_rfl
 i0:=by kernel_rfl
 i3:=by kernel_rfl
 i4:=by kernel_rfl
 i5:=by kernel_rfl
 i9:=by kernel_rfl
 i46:=by kernel_rfl
 i53:=by kernel_rfl
 i212:=by kernel_rfl
 m17:=by kernel_rfl}
open Go.RowKit Go.Sort Go.Lib in
theorem Tryz.internal_strconv_numDigits (u:Nat) (h1:1≤u) (h2:u<18446744073709551616) (w:World) (XN:Lib.TabIs Tryz.prog w "internal/strconv.uint64pow10" .u64 Lib.pow10Tab):
  Calls Tryz.prog 215 #[.int .u64 u] w fun e w'=>e=.returned (.int .i64 (Lib.nDigits u))∧w'=w:=Any.internal_strconv_numDigits Tryz.PI u h1 h2 w XN
def Tryz.FA:Go.Shelf.Ren:=⟨fun|285=>216|n=>n,fun|37=>43|53=>256|3=>3|4=>4|51=>254|9=>9|5=>5|0=>0|n=>n,fun|n=>n⟩
theorem Tryz.SQ:Go.Proofs.Lays.n285 Tryz.prog Tryz.FA:= {
 mixed:=by kernel_rfl
 f285:=Tryz.func216.trans (am some (by kernel_rfl))
 t0:=Tryz.underlying0
 a0:=Tryz.isAgg0
 z0:=Tryz.sizeOf0
 v0:=Tryz.zeroValue0
 t3:=Tryz.underlying3
 a3:=Tryz.isAgg3
 z3:=Tryz.sizeOf3
 v3:=Tryz.zeroValue3
 t4:=Tryz.underlying4
 a4:=Tryz.isAgg4
 z4:=Tryz.sizeOf4
 v4:=Tryz.zeroValue4
 t5:=Tryz.underlying5
 a5:=Tryz.isAgg5
 z5:=Tryz.sizeOf5
 v5:=Tryz.zeroValue5
 t9:=Tryz.underlying9
 a9:=Tryz.isAgg9
 z9:=Tryz.sizeOf9
 v9:=Tryz.zeroValue9
 t37:=Tryz.underlying43
 a37:=Tryz.isAgg43
 z37:=Tryz.sizeOf43
 v37:=Tryz.zeroValue43
 t51:=Tryz.underlying254
 a51:=Tryz.isAgg254
 z51:=Tryz.sizeOf254
 v51:=Tryz.zeroValue254
 t53:=Tryz.underlying256
 a53:=Tryz.isAgg256
 z53:=Tryz.sizeOf256
 v53:=Tryz.zeroValue256}
open Go.RowKit Go.Sort Go.Lib in
theorem Tryz.internal_strconv_formatBase10 (mq off cap:Nat) (u:Nat) (d:Array UInt8) (w:World) (hH:Holds (fun(b:UInt8)=>Value.int .u8 (b.toNat:Int)) w mq off d) (hu:u<10^d.size) (afF:u<18446744073709551616) (qX:d.size<4611686018427387904):
  Calls Tryz.prog 216 #[.slice (some ⟨mq,off,none⟩) d.size cap,.int .u64 u] w fun e w'=>
   e=.returned (.tuple #[])∧ ∃(n v':Nat) (dk:Array UInt8),w'=(putRow (fun(b:UInt8)=>Value.int .u8 (b.toNat:Int)) w mq off dk).drewN n∧FmtInv d.size u 0 v' dk:=Any.internal_strconv_formatBase10 Tryz.SQ mq off cap u d w hH hu afF qX
def Tryz.C4:Go.Shelf.Ren:=⟨fun|171=>85|243=>123|246=>169|283=>214|284=>215|285=>216|286=>217|129=>209|317=>241|318=>242|319=>243|320=>244|337=>258|338=>259|n=>n,fun|3=>3|9=>9|2=>2|4=>4|171=>260|0=>0|53=>256|37=>43|5=>5|173=>262|212=>282|51=>254|20=>20|213=>283|46=>101|232=>297|233=>298|n=>n,fun|17=>0|18=>1|19=>2|n=>n⟩
theorem Tryz.PJ:Go.Proofs.LaysM.n171 Tryz.prog Tryz.C4:= {
 mixed:=by kernel_rfl
 f129:=Tryz.func209.trans (am some (by kernel_rfl))
 f171:=Tryz.func85.trans (am some (by kernel_rfl))
 f243:=Tryz.func123.trans (am some (by kernel_rfl))
 f246:=Tryz.func169.trans (am some (by kernel_rfl))
 f283:=Tryz.func214.trans (am some (by kernel_rfl))
 f284:=Tryz.func215.trans (am some (by kernel_rfl))
 f285:=Tryz.func216.trans (am some (by kernel_rfl))
 f286:=Tryz.func217.trans (am some (by kernel_rfl))
 f317:=Tryz.func241.trans (am some (by kernel_rfl))
 f318:=Tryz.func242.trans (am some (by kernel_rfl))
 f319:=Tryz.func243.trans (am some (by kernel_rfl))
 f320:=Tryz.func244.trans (am some (by kernel_rfl))
 f337:=Tryz.func258.trans (am some (by kernel_rfl))
 f338:=Tryz.func259.trans (am some (by kernel_rfl))
 t0:=Tryz.underlying0
 a0:=Tryz.isAgg0
 z0:=Tryz.sizeOf0
 v0:=Tryz.zeroValue0
 t2:=Tryz.underlying2
 a2:=Tryz.isAgg2
 z2:=Tryz.sizeOf2
 v2:=Tryz.zeroValue2
 t3:=Tryz.underlying3
 a3:=Tryz.isAgg3
 z3:=Tryz.sizeOf3
 v3:=Tryz.zeroValue3
 t4:=Tryz.underlying4
 a4:=Tryz.isAgg4
 z4:=Tryz.sizeOf4
 v4:=Tryz.zeroValue4
 t5:=Tryz.underlying5
 a5:=Tryz.isAgg5
 z5:=Tryz.sizeOf5
 v5:=Tryz.zeroValue5
 t9:=Tryz.underlying9
 a9:=Tryz.isAgg9
 z9:=Tryz.sizeOf9
 v9:=Tryz.zeroValue9
 t20:=Tryz.underlying20
 a20:=Tryz.isAgg20
 z20:=Tryz.sizeOf20
 v20:=Tryz.zeroValue20
 t37:=Tryz.underlying43
 a37:=Tryz.isAgg43
 z37:=Tryz.sizeOf43
 v37:=Tryz.zeroValue43
 t46:=Tryz.underlying101
 a46:=Tryz.isAgg101
 z46:=Tryz.sizeOf101
 v46:=Tryz.zeroValue101
 t51:=Tryz.underlying254
 a51:=Tryz.isAgg254
 z51:=Tryz.sizeOf254
 v51:=Tryz.zeroValue254
 t53:=Tryz.underlying256
 a53:=Tryz.isAgg256
 z53:=Tryz.sizeOf256
 v53:=Tryz.zeroValue256
 t171:=Tryz.underlying260
 a171:=Tryz.isAgg260
 z171:=Tryz.sizeOf260
 v171:=Tryz.zeroValue260
 t173:=Tryz.underlying262
 a173:=Tryz.isAgg262
 z173:=Tryz.sizeOf262
 v173:=Tryz.zeroValue262
 t212:=Tryz.underlying282
 a212:=Tryz.isAgg282
 z212:=Tryz.sizeOf282
 v212:=Tryz.zeroValue282
 t213:=Tryz.underlying283
 a213:=Tryz.isAgg283
 z213:=Tryz.sizeOf283
 t232:=Tryz.underlying297
 a232:=Tryz.isAgg297
 z232:=Tryz.sizeOf297
 v232:=Tryz.zeroValue297
 t233:=Tryz.underlying298
 a233:=Tryz.isAgg298
 z233:=Tryz.sizeOf298
 v233:=Tryz.zeroValue298
 g17:=by kernel_rfl
 g18:=by kernel_rfl
 g19:=by kernel_rfl
 i0:=by kernel_rfl
 i2:=by kernel_rfl
 i3:=by kernel_rfl
 i4:=by kernel_rfl
 i5:=by kernel_rfl
 i9:=by kernel_rfl
 i20:=by kernel_rfl
 i37:=by kernel_rfl
 i46:=by kernel_rfl
 i51:=by kernel_rfl
 i53:=by kernel_rfl
 i171:=by kernel_rfl
 i173:=by kernel_rfl
 i212:=by kernel_rfl
 i232:=by kernel_rfl
 i233:=by kernel_rfl
 m17:=by kernel_rfl
 m18:=by kernel_rfl
 m19:=by kernel_rfl}
open Go.RowKit Go.Sort Go.Lib in
theorem Tryz.strconv_Itoa (n:Int) (h0: -9223372036854775808≤n) (h1:n≤9223372036854775807) (w:World) (XN:Lib.TabIs Tryz.prog w "internal/strconv.uint64pow10" .u64 Lib.pow10Tab):
  Calls Tryz.prog 85 #[.int .i64 n] w fun e w'=>e=.returned (.string ⟨(Lib.itoa n).toArray⟩)∧ ∃k os,w'=grow (w.drewN k) os:=Any.strconv_Itoa Tryz.PJ n h0 h1 w XN
def Tryz.xg:Go.Shelf.Ren:=⟨fun|189=>192|125=>159|257=>220|128=>208|129=>209|294=>245|295=>246|296=>247|297=>248|298=>249|299=>250|216=>221|300=>251|301=>252|328=>260|329=>226|330=>227|331=>261|332=>262|215=>240|343=>265|n=>n,fun|28=>56|3=>3|46=>101|0=>0|51=>254|53=>256|4=>4|183=>247|182=>246|131=>161|5=>5|9=>9|218=>268|222=>272|228=>289|229=>290|n=>n,fun|n=>n⟩
theorem Tryz.CD:Go.Proofs.Lays.n189 prog Tryz.xg:= {
 mixed:=by kernel_rfl
 f125:=func159.trans (am some (by kernel_rfl))
 f128:=func208.trans (am some (by kernel_rfl))
 f129:=func209.trans (am some (by kernel_rfl))
 f189:=func192.trans (am some (by kernel_rfl))
 f215:=func240.trans (am some (by kernel_rfl))
 f216:=func221.trans (am some (by kernel_rfl))
 f257:=func220.trans (am some (by kernel_rfl))
 f294:=func245.trans (am some (by kernel_rfl))
 f295:=func246.trans (am some (by kernel_rfl))
 f296:=func247.trans (am some (by kernel_rfl))
 f297:=func248.trans (am some (by kernel_rfl))
 f298:=func249.trans (am some (by kernel_rfl))
 f299:=func250.trans (am some (by kernel_rfl))
 f300:=func251.trans (am some (by kernel_rfl))
 f301:=func252.trans (am some (by kernel_rfl))
 f328:=func260.trans (am some (by kernel_rfl))
 f329:=func226.trans (am some (by kernel_rfl))
 f330:=func227.trans (am some (by kernel_rfl))
 f331:=func261.trans (am some (by kernel_rfl))
 f332:=func262.trans (am some (by kernel_rfl))
 f343:=func265.trans (am some (by kernel_rfl))
 t0:=underlying0
 a0:=Tryz.isAgg0
 z0:=Tryz.sizeOf0
 v0:=Tryz.zeroValue0
 t3:=underlying3
 a3:=Tryz.isAgg3
 z3:=Tryz.sizeOf3
 v3:=Tryz.zeroValue3
 t4:=underlying4
 a4:=Tryz.isAgg4
 z4:=Tryz.sizeOf4
 v4:=Tryz.zeroValue4
 t5:=underlying5
 a5:=Tryz.isAgg5
 z5:=Tryz.sizeOf5
 v5:=Tryz.zeroValue5
 t9:=underlying9
 a9:=Tryz.isAgg9
 z9:=Tryz.sizeOf9
 v9:=Tryz.zeroValue9
 t28:=underlying56
 a28:=Tryz.isAgg56
 z28:=Tryz.sizeOf56
 v28:=Tryz.zeroValue56
 t46:=underlying101
 a46:=Tryz.isAgg101
 z46:=Tryz.sizeOf101
 v46:=Tryz.zeroValue101
 t51:=underlying254
 a51:=Tryz.isAgg254
 z51:=Tryz.sizeOf254
 v51:=Tryz.zeroValue254
 t53:=underlying256
 a53:=Tryz.isAgg256
 z53:=Tryz.sizeOf256
 v53:=Tryz.zeroValue256
 t131:=underlying161
 a131:=Tryz.isAgg161
 z131:=Tryz.sizeOf161
 v131:=Tryz.zeroValue161
 t182:=underlying246
 a182:=Tryz.isAgg246
 z182:=Tryz.sizeOf246
 v182:=Tryz.zeroValue246
 t183:=underlying247
 a183:=Tryz.isAgg247
 z183:=Tryz.sizeOf247
 v183:=Tryz.zeroValue247
 t218:=underlying268
 a218:=Tryz.isAgg268
 z218:=Tryz.sizeOf268
 v218:=Tryz.zeroValue268
 t222:=underlying272
 a222:=Tryz.isAgg272
 z222:=Tryz.sizeOf272
 v222:=Tryz.zeroValue272
 t228:=underlying289
 a228:=Tryz.isAgg289
 z228:=Tryz.sizeOf289
 v228:=Tryz.zeroValue289
 t229:=underlying290
 a229:=Tryz.isAgg290
 z229:=Tryz.sizeOf290
 v229:=Tryz.zeroValue290}
open Go.RowKit Go.Sort Go.Lib in
theorem Tryz.slices_Sort_int (mq off cap:Nat) (zs:List Int) (w:World) (hH:Holds (Value.int .i64) w mq off zs.toArray) (Xo:mq<w.heap.size) (qX:zs.length<4611686018427387904):
  Calls prog 192 #[.slice (some ⟨mq,off,none⟩) zs.length cap] w fun e w'=>
   e=.returned (.tuple #[])∧ ∃n os,w'=grow (putRow (Value.int .i64) (Sort.ahead w n) mq off (zs.mergeSort fun x y=>decide (x≤y)).toArray) os:=Any.slices_Sort_int Tryz.CD mq off cap zs w hH Xo qX
end Go.Proofs
namespace Go.Proofs.YtgdbfideeeegmaaGreatDoor
open Go.Lx Go.RowKit Go.Proofs Go.Sort _root_.Go.Proofs.Tryz
def XO:Go.Shelf.Ren:=⟨fun|20=>193|n=>n,fun|0=>0|3=>3|4=>4|22=>56|40=>101|n=>n,fun|n=>n⟩
theorem Jo:Go.Proofs.Lays2.n20 prog XO:= {
 mixed:=by kernel_rfl
 f20:=func193.trans (am some (by kernel_rfl))
 t0:=underlying0
 a0:=Tryz.isAgg0
 z0:=Tryz.sizeOf0
 v0:=Tryz.zeroValue0
 t3:=underlying3
 a3:=Tryz.isAgg3
 z3:=Tryz.sizeOf3
 v3:=Tryz.zeroValue3
 t4:=underlying4
 a4:=Tryz.isAgg4
 z4:=Tryz.sizeOf4
 v4:=Tryz.zeroValue4
 t22:=underlying56
 a22:=Tryz.isAgg56
 z22:=Tryz.sizeOf56
 v22:=Tryz.zeroValue56
 i3:=by kernel_rfl
}
def XP:Go.Shelf.Ren:=⟨fun|25=>197|31=>221|32=>222|37=>240|n=>n,fun|0=>0|3=>3|4=>4|22=>56|40=>101|n=>n,fun|n=>n⟩
theorem Jp:Go.Proofs.Lays2.n25 prog XP:= {
 mixed:=by kernel_rfl
 f25:=func197.trans (am some (by kernel_rfl))
 f31:=func221.trans (am some (by kernel_rfl))
 f32:=func222.trans (am some (by kernel_rfl))
 f37:=func240.trans (am some (by kernel_rfl))
 t0:=underlying0
 a0:=Tryz.isAgg0
 z0:=Tryz.sizeOf0
 v0:=Tryz.zeroValue0
 t3:=underlying3
 a3:=Tryz.isAgg3
 z3:=Tryz.sizeOf3
 v3:=Tryz.zeroValue3
 t4:=underlying4
 a4:=Tryz.isAgg4
 z4:=Tryz.sizeOf4
 v4:=Tryz.zeroValue4
 t22:=underlying56
 a22:=Tryz.isAgg56
 z22:=Tryz.sizeOf56
 v22:=Tryz.zeroValue56
 t40:=underlying101
 a40:=Tryz.isAgg101
 z40:=Tryz.sizeOf101
 v40:=Tryz.zeroValue101
}
def C5:Go.Shelf.Ren:=⟨fun|21=>198|27=>223|28=>224|35=>253|39=>263|n=>n,fun|0=>0|3=>3|4=>4|22=>56|40=>101|n=>n,fun|n=>n⟩
theorem x_:Go.Proofs.Lays2.n21 prog C5:= {
 mixed:=by kernel_rfl
 f21:=func198.trans (am some (by kernel_rfl))
 f27:=func223.trans (am some (by kernel_rfl))
 f28:=func224.trans (am some (by kernel_rfl))
 f35:=func253.trans (am some (by kernel_rfl))
 f39:=func263.trans (am some (by kernel_rfl))
 t0:=underlying0
 a0:=Tryz.isAgg0
 z0:=Tryz.sizeOf0
 v0:=Tryz.zeroValue0
 t3:=underlying3
 a3:=Tryz.isAgg3
 z3:=Tryz.sizeOf3
 v3:=Tryz.zeroValue3
 t4:=underlying4
 a4:=Tryz.isAgg4
 z4:=Tryz.sizeOf4
 v4:=Tryz.zeroValue4
 t22:=underlying56
 a22:=Tryz.isAgg56
 z22:=Tryz.sizeOf56
 v22:=Tryz.zeroValue56
 i3:=by kernel_rfl
}
def XQ:Go.Shelf.Ren:=⟨fun|15=>146|n=>n,fun|0=>0|3=>3|4=>4|22=>56|40=>101|n=>n,fun|n=>n⟩
theorem C6:Go.Proofs.Lays2.n15 prog XQ:= {
 mixed:=by kernel_rfl
 f15:=func146.trans (am some (by kernel_rfl))
 t3:=underlying3
 a3:=Tryz.isAgg3
 z3:=Tryz.sizeOf3
 v3:=Tryz.zeroValue3
 t4:=underlying4
 a4:=Tryz.isAgg4
 z4:=Tryz.sizeOf4
 v4:=Tryz.zeroValue4
 t22:=underlying56
 a22:=Tryz.isAgg56
 z22:=Tryz.sizeOf56
 v22:=Tryz.zeroValue56
 i3:=by kernel_rfl
}
theorem ya {base w:World} {O:List Lx.Item} {i c:Nat} {T:TypeId} {zs:List Int} (hI:Inv base O w) (hO:O[i]? =some (az none c T 1 (ints zs))):zs=[]∧c=0:=by
 have h:=hI.row hO
 exact⟨by have:=h.1;simpa using this,h.2⟩
theorem Z0 (base:World) (b:Option Addr) (c:Nat) (zs:List Int) (qX:zs.length<4611686018427387904):cx prog base 192 [.slice b zs.length c] [az b c 3 1 (ints zs)] (fun v O'=>v=.tuple #[]∧O'=[az b c 3 1 (ints (rR zs))]):=fun w M hI=>by
 have hO:(([az b c 3 1 (ints zs)]++M:List Lx.Item))[0]? =some (az b c 3 1 (ints zs)):=rfl
 cases b with
 |none=>
  obtain⟨rfl,rfl⟩:=ya hI hO
  refine(Any.slices_Sort_int_none Tryz.CD none 0 w).mono ?_
  rintro e w' ⟨rfl,rfl⟩
  refine⟨_,_,F,?_,F,F⟩
  have h9:rR []=[]:=by simp
  rw[h9];exact hI
 |some a=>
  obtain⟨mq,off,sp⟩:=a
  have Aw:sp=none:=(hI.row hO).1
  subst Aw
  obtain⟨hH,hb⟩:=BW hI hO
  refine(Tryz.slices_Sort_int mq off c zs w hH hb qX).mono ?_
  rintro e w' ⟨rfl,n,os,rfl⟩
  refine⟨_,_,F,?_,F,F⟩
  exact hI.OW (ys:=rR zs) hO (List.length_mergeSort zs) n os
theorem Ng (base:World) (b:Option Addr) (c:Nat) (zs:List Int) (qX:zs.length≤1000000):cx prog base 193 [.slice b zs.length c] [az b c 3 1 (ints zs)] (fun v O'=>v=.slice b (Lib.compact zs).length c∧O'=[az b c 3 1 (ints (Lib.compact zs))]):=fun w M hI=>by
 have hO:(([az b c 3 1 (ints zs)]++M:List Lx.Item))[0]? =some (az b c 3 1 (ints zs)):=rfl
 cases b with
 |none=>
  obtain⟨rfl,rfl⟩:=ya hI hO
  refine(Any.slices_Compact_int_empty Jo none 0 w).mono ?_
  rintro e w' ⟨rfl,rfl⟩
  refine⟨_,_,F,?_,F,F⟩
  have h9:Lib.compact ([]:List Int)=[]:=rfl
  rw[h9];exact hI
 |some a=>
  obtain⟨mq,off,sp⟩:=a
  have Aw:sp=none:=(hI.row hO).1
  subst Aw
  obtain⟨hH,hb⟩:=BW hI hO
  have QY:zs.length≤c:=by have:=(hI.row hO).2;obtain⟨_,_,h,_⟩:=this;simpa using h
  refine(Any.slices_Compact_int Jo mq off c zs w hH (by omega) QY).mono ?_
  rintro e w' ⟨rfl,n,rfl⟩
  refine⟨_,_,F,?_,F,F⟩
  have HR:=Lib.compact_length_le zs
  exact hI.KI (ys:=Lib.compact zs) hO (by simp;omega) n
theorem RI (w:World) (b:Option Addr) (c:Nat) (l:List Nat) (s:Nat) (hS:Sl w b (cm l)) (ha:l.Pairwise (· < ·)) (hb:l.length≤1000000):cB prog 197 [.slice b l.length c,.int .i64 (s:Int)] w fun v N=>v=.tuple #[.int .i64 ((l.countP (· <s):Nat):Int),.bool (decide (s∈l))]∧N=[]:=fun w1 M hI=>by
 have YE:=hI.sl hS
 by_cases h0:l=[]
 ·subst h0
  exact(Any.slices_BinarySearch_int_empty Jp b c (s:Int) w1).mono (by rintro e w' ⟨rfl,rfl⟩;exact⟨_,_,F,hI,F,F⟩)
 ·have Mu:0<(cm l).length:=by simp;exact List.length_pos_iff.2 h0
  obtain⟨bk,o,rfl⟩:=YE.addr Mu
  refine(Any.slices_BinarySearch_int Jp bk o l.length c (l.map fun y:Nat=>(y:Int)) (s:Int) w1 (by simp) (by omega) (fun j hj=>?_) ?_).mono ?_
  ·have s_:j<l.length:=by simpa using hj
   rw[YE.get (i:=j) (v:=.int .i64 ((l[j]:Nat):Int)) (by simp[s_])]
   simp[au,s_]
  ·rw[bt (by simp)]
   exact List.pairwise_map.2 (ha.imp fun h=>by omega)
  ·rintro e w' ⟨rfl,q,rfl⟩
   refine⟨_,_,F,hI.drewN q,?_,F⟩
   rw[bt (by simp),List.countP_map]
   have e1:((fun x:Int=>decide (x<(s:Int)))∘fun y:Nat=>(y:Int))=fun y:Nat=>decide (y<s):=by funext y;simp
   have e2:(List.map (fun y:Nat=>(y:Int)) l).contains (s:Int)=decide (s∈l):=by
    rw[List.contains_eq_mem]
    exact decide_eq_decide.2 ⟨fun h=>(by obtain⟨y,hy,e⟩:=List.mem_map.1 h;have:y=s:=(by omega);exact this▸hy),fun h=>List.mem_map.2 ⟨s,h,F⟩⟩
   rw[e1,e2]
theorem Ni (w:World) (b:Option Addr) (c:Nat) (zs:List Int) (hS:Sl w b (ints zs)) (hz:zs.length≤1000000):cB prog 146 [.slice b zs.length c] w fun v N=> ∃b' c',v=.slice b' zs.length c'∧N=[az b' c' 3 1 (ints zs)]∧c'≤9223372036854775807:=fun w1 M hI=>by
 have YE:=hI.sl hS
 have key: ∀(e:Ending) (w':World),(∃v':Value,e=.returned v'∧w'.ownsRow w1.heap.size 3 1 v' zs.length (ints zs)∧Below w1.heap.size w1 w')→ ∃(v:Value) (O':List Lx.Item),e=.returned v∧Inv w (O'++M) w'∧ ∃b' c',v=.slice b' zs.length c'∧O'=[az b' c' 3 1 (ints zs)]∧c'≤9223372036854775807:=by
  rintro e w' ⟨v',rfl,⟨hl,ho⟩,hB⟩
  rcases ho with⟨rfl,h0⟩|⟨g,cap,cur,rfl,hg,hh,hn,hm,hs,ht⟩
  ·have YV:zs=[]:=List.length_eq_zero_iff.1 h0
   subst YV
   refine⟨_,_,F,?_,none,0,F,F,by omega⟩
   exact hI.new (N:=[az none 0 3 1 []]) hB.os hB.tape hB.output hB.size hB.block (by simp[az,rowP]) (by simp[az]) (by simp[az])
  ·refine⟨_,_,F,?_,some ⟨g,0,none⟩,cap,F,F,hm⟩
   have gQ:=(Array.getElem?_eq_some_iff.1 hh).1
   refine hI.new (N:=[az (some ⟨g,0,none⟩) cap 3 1 (ints zs)]) hB.os hB.tape hB.output hB.size hB.block (fun it gf=>?_) (fun it gf k hk=>?_) (by simp[az])
   ·simp only[dl]at gf;subst gf
    refine⟨F,cur,hh,by simp;omega,by show 0+cap*1≤_;omega,fun j hj=>?_⟩
    have h9:(cur.toList.take (zs.length*1))[j]? =some (ints zs)[j]:=by rw[ht];exact ak hj
    rw[List.getElem?_take,aB (by simpa using hj)]at h9
    simpa using h9
   ·simp only[dl]at gf;subst gf;simp[az]at hk;omega
 by_cases h0:b=none
 ·subst h0
  have YV:zs=[]:=by
   cases zs with
   |nil=>rfl
   |cons z zs=>obtain⟨_,_,e⟩:=YE.addr (i:=0) (by simp);cases e
  subst YV
  exact(Any.slices_Clone_int_nil C6 _ c w1).mono fun e w' h=>key e w' (by obtain⟨h1,h2⟩:=h;subst h1 h2;exact⟨_,F,⟨by simp,.inl ⟨F,F⟩⟩,Below.refl _ _⟩)
 ·obtain⟨a,rfl⟩:=Option.ne_none_iff_exists'.1 h0
  by_cases hn:zs=[]
  ·subst hn
   exact(Any.slices_Clone_int_zero C6 a c w1).mono fun e w' h=>key e w' (by obtain⟨v',h1,h2,h3,h4⟩:=h;exact⟨v',h1,h2,h4⟩)
  ·obtain⟨bk,o,rfl⟩: ∃bk o,a=⟨bk,o,none⟩:=by
    obtain⟨bk,o,e⟩:=YE.addr (i:=0) (by simp;exact List.length_pos_iff.2 hn)
    exact⟨bk,o,by simpa using e⟩
   refine(Any.slices_Clone_int C6 bk o zs.length c zs w1 (by simp) (by omega) (fun j hj=>?_)).mono fun e w' h=>key e w' (by obtain⟨v',h1,h2,h3,h4⟩:=h;rw[List.take_length]at h2;exact⟨v',h1,h2,h4⟩)
   rw[YE.get (i:=j) (v:=.int .i64 zs[j]) (by simp[hj])]
   simp[au,hj]
theorem RK (base:World) (b:Option Addr) (c i vb:Nat) (xs:List Int) (x:Int) (hi:i≤xs.length) (hx:xs.length≤1000000) (acm:c≤9223372036854775807):cx prog base 198 [.slice b xs.length c,.int .i64 ((i:Nat):Int),.slice (some ⟨vb,0,none⟩) 1 1] [az b c 3 1 (ints xs),az (some ⟨vb,0,none⟩) 1 3 1 [.int .i64 x]] (fun v O'=> ∃b' c',v=.slice b' (xs.length+1) c'∧O'=[az b' c' 3 1 (ints (xs.take i++x::xs.drop i))]):=fun w M hI=>by
 have hO:(([az b c 3 1 (ints xs),az (some ⟨vb,0,none⟩) 1 3 1 [.int .i64 x]]++M:List Lx.Item))[0]? =some (az b c 3 1 (ints xs)):=rfl
 have hV:(([az b c 3 1 (ints xs),az (some ⟨vb,0,none⟩) 1 3 1 [.int .i64 x]]++M:List Lx.Item))[1]? =some (az (some ⟨vb,0,none⟩) 1 3 1 [.int .i64 x]):=rfl
 obtain⟨_,vf,hvb,_,hv2,hv3⟩:=hI.row hV
 have HM:vf[0]? =some (.int .i64 x):=hv3 0 (by simp)
 have gS: ∀j v,[Value.int .i64 x][j]? =some v→w.cell? ⟨vb,0+j,none⟩=some v:=fun j v h=>by
  cases j with
  |zero=>simp at h;subst h;simp[World.cell?,hvb,HM]
  |succ j=>simp at h
 have h1v: ∀v∈[Value.int .i64 x],v.oneCell'=true:=by simp[Value.oneCell']
 have h1c: ∀v∈ints xs,v.oneCell'=true:=fun v hv=>by obtain⟨y,_,rfl⟩:=List.mem_map.1 hv;rfl
 have iH:(ints (xs.take i++x::xs.drop i)).length=xs.length+1:=by simp;omega
 have Ax: ∀(b':Option Addr) (c':Nat) (W:World),Inv base (az b' c' 3 1 (ints (xs.take i++x::xs.drop i))::az (some ⟨vb,0,none⟩) 1 3 1 [.int .i64 x]::M) W→Inv base ([az b' c' 3 1 (ints (xs.take i++x::xs.drop i))]++M) W:=fun b' c' W h=>
  h.lz ⟨_,List.Perm.refl _,List.Sublist.cons_cons _ (List.sublist_cons_self _ _)⟩
 have grown: ∀(W:World) (cc:Nat) (full:Array Value),W.os=w.os→W.tape=w.tape→W.output=w.output→W.heap.size=w.heap.size+1→(∀k,k<w.heap.size→W.heap[k]? =w.heap[k]?)→W.heap[w.heap.size]? =some (.cells full 3 (0,0))→xs.length+1≤cc→full.size=cc→(∀j,j<xs.length+1→full[j]? =(ints (xs.take i++x::xs.drop i))[j]?)→
   Inv base ([az (some ⟨w.heap.size,0,none⟩) cc 3 1 (ints (xs.take i++x::xs.drop i))]++M) W:=fun W cc full h1 h2 h3 h4 h5 h6 h7 h8 h9=>by
  have h:=hI.new (N:=[az (some ⟨w.heap.size,0,none⟩) cc 3 1 (ints (xs.take i++x::xs.drop i))]) h1 h2 h3 (by omega) h5 (fun it gf=>by
   simp only[dl]at gf;subst gf
   exact⟨F,full,h6,by rw[iH];omega,by show 0+cc*1≤_;omega,fun j hj=>by
    show full[0+j]? =_
    rw[Nat.zero_add,h9 j (by omega),ak hj]⟩) (fun it gf k hk=>by
   simp only[dl]at gf;subst gf;simp[az]at hk;omega) (by simp[az])
  exact h.lz ⟨_,List.Perm.refl _,List.Sublist.cons_cons _ (List.Sublist.cons _ (List.sublist_cons_self _ _))⟩
 have key:(∃bk o,b=some ⟨bk,o,none⟩)∨(b=none∧xs=[]∧c=0):=by
  cases b with
  |none=>exact .inr ⟨F,(ya hI hO).1,(ya hI hO).2⟩
  |some a=>obtain⟨bk,o,sp⟩:=a;have Aw:sp=none:=(hI.row hO).1;subst Aw;exact .inl ⟨bk,o,F⟩
 by_cases xF:i<xs.length
 ·rcases key with⟨bk,o,rfl⟩|⟨_,rfl,_⟩
  ·obtain⟨_,full,hb,h1,h2,h3⟩:=hI.row hO
   simp only[Nat.mul_one,ai]at h1 h2
   have yx: ∀j v,(ints xs)[j]? =some v→w.cell? ⟨bk,o+j,none⟩=some v:=fun j v hv=>by
    obtain⟨hj,e⟩:=List.getElem?_eq_some_iff.1 hv
    have:=h3 j hj
    simp only[World.cell?,hb];simpa[e]using this
   have Aw: ∀j,j<c→(w.cell? ⟨bk,o+j,none⟩).isSome=true:=fun j hj=>by
    simp only[World.cell?,hb];simp;omega
   have hfz: ∀j,w.frozen? ⟨bk,j,none⟩=false:=fun j=>by simp[World.frozen?,hb]
   by_cases PK:xs.length+1≤c
   ·have qm:vb≠bk:=fun e=>by
     have hn:=hI.nodup
     simp[az,e]at hn
    refine(Any2.slices_Insert_int_shift x_ bk o xs.length c i vb 0 1 1 (ints xs) [.int .i64 x] w xF (by decide) PK acm qm (by simp) F yx (fun j hj=>Aw j (by omega)) (fun j _=>hfz _) gS h1c h1v 3 3 vf.size full.size (by simp[World.shape?,hvb]) (by simp[World.shape?,hb]) (by omega) (by simp[World.frozen?,hvb]) (by simp[World.frozen?,hvb])).mono ?_
    rintro e w' ⟨rfl,rfl⟩
    refine⟨_,_,F,?_,_,_,F,F⟩
    have hA:=(hI.drew).setCells (p:=i+1) (vs:=(ints xs).drop i) (B5:=ints (xs.take i++xs.getD i 0::xs.drop i)) hO (by simp;omega) (by simp;omega) (fun j hj=>by
     have s_:j<xs.length+1:=by simp at hj;omega
     rw[vn xs _ hi]
     simp only[List.length_drop,ai]
     by_cases c1:j<i
     ·rw[aB c1,aq (by omega)]
     ·by_cases c2:j=i
      ·subst c2;rw[aq c1,aB F,aq (by omega),bl];simp[au,xF]
      ·rw[aq c1,aq c2,aB (by omega),List.getElem?_drop,show i+(j-(i+1))=j-1 by omega])
    have hB:=hA.setCells (i:=0) (b:=bk) (o:=o) (c:=c) (T:=3) (cs:=ints (xs.take i++xs.getD i 0::xs.drop i)) (p:=i) (vs:=[.int .i64 x]) (B5:=ints (xs.take i++x::xs.drop i)) F (by simp;omega) (by rw[iH];omega) (fun j hj=>by
     rw[vn xs _ hi,vn xs _ hi]
     simp only[bQ,dx]
     by_cases c1:j<i
     ·rw[aB c1,aq (by omega),aB c1]
     ·by_cases c2:j=i
      ·subst c2;rw[aq c1,aB F,aB (by omega),fX];rfl
      ·rw[aq c1,aq c2,aq (by omega),aq c1,aq c2])
    exact Ax _ _ _ hB
   ·refine(Any2.slices_Insert_int_grow x_ bk o xs.length c i vb 0 1 1 (ints xs) [.int .i64 x] w xF (by decide) h1 (by omega) (by omega) (by simp) F yx gS h1c h1v).mono ?_
    rintro e w' ⟨rfl,rfl⟩
    refine⟨_,_,F,?_,_,_,F,F⟩
    obtain⟨cc,hcc⟩: ∃cc,grownCap w (xs.length+1) c 3=cc:=⟨_,F⟩
    have hge:xs.length+1≤cc:=hcc▸grownCap_ge w _ _ _
    rw[show grownCap w (xs.length+1) c (C5.t 3)=cc from hcc]
    have hz: ∀k,Builtin.zeroCells (Value.int .i64 0).cells k=(List.replicate k (Value.int .i64 0)).toArray:=fun k=>by
     have:=sB (.int .i64 0) k
     simpa[Builtin.zeroCells,Value.cells]using this
    obtain⟨Ld,XR⟩: ∃Ld,Ld=(ints xs).take i++List.replicate (xs.length+1-i) (Value.int .i64 0)++List.replicate (cc-(xs.length+1)) (Value.int .i64 0):=⟨_,F⟩
    have AW:Ld.length=cc:=by rw[XR];simp;omega
    have e1:((ints xs).take i).toArray++Builtin.zeroCells (Value.int .i64 0).cells (xs.length+1-i)++Builtin.zeroCells (Value.int .i64 0).cells (cc-(xs.length+1))=Ld.toArray:=by
     rw[XR,hz,hz];simp only[List.append_toArray]
    rw[e1,show C5.t 3=3 from F]
    have hh1:(w.alloc (.cells Ld.toArray 3 (0,0))).drew.heap[w.heap.size]? =some (.cells Ld.toArray 3 (0,0)):=by
     show(w.heap.push _)[w.heap.size]? =_
     simp
    rw[mR _ _ _ _ hh1]
    have hh2:((kN (w.alloc (.cells Ld.toArray 3 (0,0))).drew w.heap.size (.cells (fC Ld i [.int .i64 x]).toArray 3 (0,0))).drew).heap[w.heap.size]? =some (.cells (fC Ld i [.int .i64 x]).toArray 3 (0,0)):=mz (w:=(w.alloc (.cells Ld.toArray 3 (0,0))).drew) (by show w.heap.size<(w.heap.push _).size;simp)
    rw[mR _ _ _ _ hh2]
    refine grown _ cc (fC (fC Ld i [.int .i64 x]) (i+1) ((ints xs).drop i)).toArray F F F ?_ ?_ ?_ hge (by simp[jl,AW]) ?_
    ·show(((w.heap.push _).setIfInBounds _ _).setIfInBounds _ _).size=_;simp
    ·intro k hk
     show(((w.heap.push _).setIfInBounds _ _).setIfInBounds _ _)[k]? =_
     rw[Array.getElem?_setIfInBounds_ne (by omega),Array.getElem?_setIfInBounds_ne (by omega),Array.getElem?_push,aq (by omega)]
    ·exact mz (w:=(kN (w.alloc (.cells Ld.toArray 3 (0,0))).drew w.heap.size (.cells (fC Ld i [.int .i64 x]).toArray 3 (0,0))).drew) (by show w.heap.size<((w.heap.push _).setIfInBounds _ _).size;simp)
    ·intro j hj
     rw[vn xs _ hi]
     simp only[List.getElem?_toArray]
     rw[nZ _ _ _ _ (by simp[jl,AW];omega),nZ _ _ _ _ (by simp[AW];omega)]
     simp only[List.length_drop,ai,bQ,dx]
     by_cases c1:j<i
     ·rw[aq (by omega),aq (by omega),aB c1,XR,aV,bG (by simp;omega),List.getElem?_take,aB c1]
     ·by_cases c2:j=i
      ·subst c2;rw[aq (by omega),aB (by omega),aq c1,aB F,fX];rfl
      ·rw[aB (by omega),aq c1,aq c2,List.getElem?_drop,show i+(j-(i+1))=j-1 by omega]
  ·simp at xF
 ·have afH:i=xs.length:=by omega
  subst afH
  have afI:ints (xs.take xs.length++x::xs.drop xs.length)=ints xs++[.int .i64 x]:=by simp
  by_cases PK:xs.length+1≤c
  ·rcases key with⟨bk,o,rfl⟩|⟨_,_,rfl⟩
   ·obtain⟨_,full,hb,h1,h2,h3⟩:=hI.row hO
    simp only[Nat.mul_one,ai]at h1 h2
    refine(Any2.slices_Insert_int_end_room x_ bk o xs.length c vb 0 1 1 [.int .i64 x] w (by decide) PK acm F (fun j hj=>by simp only[World.cell?,hb];simp;omega) (fun j _=>by simp[World.frozen?,hb]) gS h1v).mono ?_
    rintro e w' ⟨rfl,rfl⟩
    refine⟨_,_,F,?_,_,_,F,F⟩
    have hB:=hI.setCells (p:=xs.length) (vs:=[.int .i64 x]) (B5:=ints (xs.take xs.length++x::xs.drop xs.length)) hO (by simp;omega) (by rw[iH];omega) (fun j hj=>by
     rw[vn xs _ (aI _)]
     simp only[bQ,dx]
     by_cases c1:j<xs.length
     ·rw[aB c1,aq (by omega)]
     ·have c2:j=xs.length:=by omega
      subst c2;rw[aq c1,aB F,aB (by omega),fX];rfl)
    exact Ax _ _ _ hB
   ·omega
  ·have hnc:xs.length≤c:=by
    rcases key with⟨bk,o,rfl⟩|⟨_,rfl,_⟩
    ·obtain⟨_,full,_,h1,_⟩:=hI.row hO;simpa using h1
    ·simp
   refine(Any2.slices_Insert_int_end_grow x_ b xs.length c vb 0 1 1 (ints xs) [.int .i64 x] w (by decide) hnc (by omega) (by omega) (by simp) F (fun e=>key.elim (fun h=>by obtain⟨_,_,h⟩:=h;rw[e]at h;cases h) (fun h=>by rw[h.2.1];rfl)) (fun a ha j v hv=>by
    obtain⟨bk,o,sp⟩:=a
    subst ha
    have Aw:sp=none:=(hI.row hO).1
    subst Aw
    rw[sC]
    obtain⟨hj,e⟩:=List.getElem?_eq_some_iff.1 hv
    obtain⟨_,full,hb,h1,h2,h3⟩:=hI.row hO
    have:=h3 j hj
    simp only[World.cell?,hb];simpa[e]using this) gS h1v).mono ?_
   rintro e w' ⟨rfl,rfl⟩
   refine⟨_,_,F,?_,_,_,F,F⟩
   obtain⟨cc,hcc⟩: ∃cc,grownCap w (xs.length+1) c 3=cc:=⟨_,F⟩
   have hge:xs.length+1≤cc:=hcc▸grownCap_ge w _ _ _
   rw[show grownCap w (xs.length+1) c (C5.t 3)=cc from hcc]
   have hz: ∀k,Builtin.zeroCells (Value.int .i64 0).cells k=(List.replicate k (Value.int .i64 0)).toArray:=fun k=>by
    have:=sB (.int .i64 0) k
    simpa[Builtin.zeroCells,Value.cells]using this
   rw[hz]
   refine grown _ cc _ F F F (by show(w.heap.push _).size=_;simp) (fun k hk=>by
    show(w.heap.push _)[k]? =_
    rw[Array.getElem?_push,aq (by omega)]) (by show(w.heap.push (Obj.cells _ 3 (0,0)))[w.heap.size]? =_;rw[Array.getElem?_push_size]) hge (by simp;omega) (fun j hj=>by
    rw[afI]
    simp only[List.append_toArray,List.getElem?_toArray]
    rw[bG (by simp;omega)])
end Go.Proofs.YtgdbfideeeegmaaGreatDoor

namespace Go.Proofs
open Go.Shelf
def Tryz.EX:Go.Shelf.Ren:=⟨fun|190=>111|125=>159|258=>158|128=>208|129=>209|302=>199|303=>200|304=>201|305=>202|306=>203|307=>204|308=>205|309=>206|310=>207|333=>225|329=>226|330=>227|334=>228|335=>229|336=>230|344=>254|n=>n,fun|31=>166|9=>9|3=>3|46=>101|0=>0|51=>254|53=>256|4=>4|183=>247|182=>246|131=>161|5=>5|218=>268|222=>272|228=>289|229=>290|n=>n,fun|n=>n⟩
theorem Tryz.IS:Go.Proofs.Lays.n190 prog Tryz.EX:= {
 mixed:=by kernel_rfl
 f125:=func159.trans (am some (by kernel_rfl))
 f128:=func208.trans (am some (by kernel_rfl))
 f129:=func209.trans (am some (by kernel_rfl))
 f190:=func111.trans (am some (by kernel_rfl))
 f258:=func158.trans (am some (by kernel_rfl))
 f302:=func199.trans (am some (by kernel_rfl))
 f303:=func200.trans (am some (by kernel_rfl))
 f304:=func201.trans (am some (by kernel_rfl))
 f305:=func202.trans (am some (by kernel_rfl))
 f306:=func203.trans (am some (by kernel_rfl))
 f307:=func204.trans (am some (by kernel_rfl))
 f308:=func205.trans (am some (by kernel_rfl))
 f309:=func206.trans (am some (by kernel_rfl))
 f310:=func207.trans (am some (by kernel_rfl))
 f329:=func226.trans (am some (by kernel_rfl))
 f330:=func227.trans (am some (by kernel_rfl))
 f333:=func225.trans (am some (by kernel_rfl))
 f334:=func228.trans (am some (by kernel_rfl))
 f335:=func229.trans (am some (by kernel_rfl))
 f336:=func230.trans (am some (by kernel_rfl))
 f344:=func254.trans (am some (by kernel_rfl))
 t0:=underlying0
 a0:=Tryz.isAgg0
 z0:=Tryz.sizeOf0
 v0:=Tryz.zeroValue0
 t3:=underlying3
 a3:=Tryz.isAgg3
 z3:=Tryz.sizeOf3
 v3:=Tryz.zeroValue3
 t4:=underlying4
 a4:=Tryz.isAgg4
 z4:=Tryz.sizeOf4
 v4:=Tryz.zeroValue4
 t5:=underlying5
 a5:=Tryz.isAgg5
 z5:=Tryz.sizeOf5
 v5:=Tryz.zeroValue5
 t9:=underlying9
 a9:=Tryz.isAgg9
 z9:=Tryz.sizeOf9
 v9:=Tryz.zeroValue9
 t31:=underlying166
 a31:=Tryz.isAgg166
 z31:=Tryz.sizeOf166
 v31:=Tryz.zeroValue166
 t46:=underlying101
 a46:=Tryz.isAgg101
 z46:=Tryz.sizeOf101
 v46:=Tryz.zeroValue101
 t51:=underlying254
 a51:=Tryz.isAgg254
 z51:=Tryz.sizeOf254
 v51:=Tryz.zeroValue254
 t53:=underlying256
 a53:=Tryz.isAgg256
 z53:=Tryz.sizeOf256
 v53:=Tryz.zeroValue256
 t131:=underlying161
 a131:=Tryz.isAgg161
 z131:=Tryz.sizeOf161
 v131:=Tryz.zeroValue161
 t182:=underlying246
 a182:=Tryz.isAgg246
 z182:=Tryz.sizeOf246
 v182:=Tryz.zeroValue246
 t183:=underlying247
 a183:=Tryz.isAgg247
 z183:=Tryz.sizeOf247
 v183:=Tryz.zeroValue247
 t218:=underlying268
 a218:=Tryz.isAgg268
 z218:=Tryz.sizeOf268
 v218:=Tryz.zeroValue268
 t222:=underlying272
 a222:=Tryz.isAgg272
 z222:=Tryz.sizeOf272
 v222:=Tryz.zeroValue272
 t228:=underlying289
 a228:=Tryz.isAgg289
 z228:=Tryz.sizeOf289
 v228:=Tryz.zeroValue289
 t229:=underlying290
 a229:=Tryz.isAgg290
 z229:=Tryz.sizeOf290
 v229:=Tryz.zeroValue290}
open Go.RowKit Go.Sort Go.Lib in
theorem Tryz.slices_Sort_string (mq off cap:Nat) (ss:List (List UInt8)) (w:World) (hH:Holds encStr w mq off ss.toArray) (Xo:mq<w.heap.size) (qX:ss.length<4611686018427387904):
  Calls prog 111 #[.slice (some ⟨mq,off,none⟩) ss.length cap] w fun e w'=>
   e=.returned (.tuple #[])∧ ∃n os,w'=grow (putRow encStr (Sort.ahead w n) mq off (ss.mergeSort fun x y=>decide (x≤y)).toArray) os:=Any.slices_Sort_string Tryz.IS mq off cap ss w hH Xo qX
end Go.Proofs
namespace Go.Lx
open Go.RowKit Go.Sort Go.Proofs
def strs (l:List Key):List Value:=l.map str
theorem zu (l:List Key):(strs l).length=l.length:=ai _
theorem Oi {l:List Key} {i:Nat} (h:i<l.length):(strs l)[i]? =some (str l[i]):=by unfold strs;rw[bl,ak h];rfl
theorem Inv.Sm {base w:World} {O:List Lx.Item} {i mq off cap:Nat} {T:TypeId} {zs ys:List Key} (hI:Inv base O w) (hO:O[i]? =some (az (some ⟨mq,off,none⟩) cap T 1 (strs zs))) (hl:ys.length=zs.length) (n:Nat) (os:Array Obj):
  Inv base (O.set i (az (some ⟨mq,off,none⟩) cap T 1 (strs ys))) (Go.Sort.grow (putRow encStr (Sort.ahead w n) mq off ys.toArray) os):=by
 obtain⟨_,full,hb,pm,Xp,Df⟩:=hI.row hO
 have gQ:mq<w.heap.size:=(Array.getElem?_eq_some_iff.1 hb).1
 have zN:(Go.Sort.grow (putRow encStr (Sort.ahead w n) mq off ys.toArray) os).heap=(w.heap.modify mq (onCells (putCells encStr off ys.toArray)))++os:=rfl
 refine hI.tK hO F F F ?_ (fun b hlb hk=>?_) ⟨F,putCells encStr off ys.toArray full,?_,?_,?_,fun j hj=>?_⟩ (fun k hk=>.inl hk) (by simp[az])
 ·rw[zN];simp
 ·rw[zN,Array.getElem?_append_left (by simpa using hlb),Array.getElem?_modify,aq (fun e=>hk (by simp[az,e]))]
 ·rw[zN,Array.getElem?_append_left (by simpa using gQ),Array.getElem?_modify,aB F,hb];rfl
 ·simp only[zu]at pm⊢;omega
 ·rw[tA];exact Xp
 ·have s_:j<ys.length:=by simpa[strs]using hj
  have aeH:zs.length≤cap*1:=by simpa[strs]using pm
  have aeI:off+cap*1≤full.size:=Xp
  show(putCells encStr off ys.toArray full)[off+j]? =_
  rw[xo _ _ _ _ (by simpa using s_) (by omega),show(strs ys)[j]=str ys[j] by simp[strs]]
  simp[s_];rfl
theorem Hg {base w:World} {O:List Lx.Item} {i mq off cap:Nat} {T:TypeId} {zs:List Key} (hI:Inv base O w) (hO:O[i]? =some (az (some ⟨mq,off,none⟩) cap T 1 (strs zs))):Holds encStr w mq off zs.toArray∧mq<w.heap.size:=by
 obtain⟨_,full,hb,pm,Xp,Df⟩:=hI.row hO
 refine⟨fun j hj=>?_,(Array.getElem?_eq_some_iff.1 hb).1⟩
 have s_:j<zs.length:=by simpa using hj
 have h9:=Df j (by simpa[strs]using s_)
 rw[show(strs zs)[j]'(by simpa[strs]using s_)=str zs[j] by simp[strs]]at h9
 constructor
 ·simp only[World.cell?,hb]
  simp at h9
  simp[h9,s_];rfl
 ·simp[World.frozen?,hb]
end Go.Lx
namespace Go.Proofs.YtgdbfideeeegmaaGreatDoor
open Go.Lx Go.RowKit Go.Proofs Go.Sort _root_.Go.Proofs.Tryz
theorem Oh (base:World) (b:Option Addr) (c:Nat) (zs:List Key) (qX:zs.length<4611686018427387904):cx prog base 111 [.slice b zs.length c] [az b c 9 1 (strs zs)] (fun v O'=>v=.tuple #[]∧O'=[az b c 9 1 (strs (zs.mergeSort xZ))]):=fun w M hI=>by
 have hO:(([az b c 9 1 (strs zs)]++M:List Lx.Item))[0]? =some (az b c 9 1 (strs zs)):=rfl
 cases b with
 |none=>
  have hz:zs=[]:=by have h:=(hI.row hO).1;simpa[strs]using h
  subst hz
  refine(Any.slices_Sort_string_none Tryz.IS none c w).mono ?_
  rintro e w' ⟨rfl,rfl⟩
  refine⟨_,_,F,?_,F,F⟩
  have h9:([]:List Key).mergeSort xZ=[]:=by simp
  rw[h9];exact hI
 |some a=>
  obtain⟨mq,off,sp⟩:=a
  have Aw:sp=none:=(hI.row hO).1
  subst Aw
  obtain⟨hH,hb⟩:=Hg hI hO
  refine(Tryz.slices_Sort_string mq off c zs w hH hb qX).mono ?_
  rintro e w' ⟨rfl,n,os,rfl⟩
  refine⟨_,_,F,?_,F,F⟩
  exact hI.Sm (ys:=zs.mergeSort xZ) hO (List.length_mergeSort zs) n os
open Go.Lx Go.RowKit _root_.Go.Proofs.Tryz
theorem XT (w:World) (i:Nat) (h:i<100):cB prog 214 [vI (i:Int)] w fun v N=>v=str (Lib.decDigits i)∧N=[]:=fun w1 M hI=>
 (Go.Proofs.Tryz.internal_strconv_small i h w1).mono (by rintro e w' ⟨rfl,rfl⟩;exact⟨_,[],F,hI,F,F⟩)
theorem ndF (w:World) [t:dQ prog w] (n:Nat) (h1:1≤n) (hn:n<1000000000000):cB prog 215 [.int .u64 (n:Int)] w fun v N=>v=vI (Lib.nDigits n:Int)∧N=[]:=fun w1 M hI=>
 (Go.Proofs.Tryz.internal_strconv_numDigits n h1 (by omega) w1 (dQ.is (hI.tab (P:=prog)))).mono (by rintro e w' ⟨rfl,rfl⟩;exact⟨_,[],F,hI,F,F⟩)
theorem PL (base:World) [dQ prog base] (b:Option Addr) (c c' m n:Nat) (l:List UInt8) (hl:l.length=m) (hn:n<1000000000000) (Vj:100≤n) (hm:m≤1000000):
  cx prog base 231 [.slice b m c,.int .u64 (n:Int),vI 10] [az b c 5 1 (dy l)] (fun v O'=> ∃b' c',v=.slice b' (m+(Lib.decDigits n).length) c'∧ ∃k cs,O'=[eu k (.cells cs 260 (0,0)),az b' c' 5 1 (dy (l++Lib.decDigits n))]):=by
 have h20:Lib.nDigits n≤20:=by have:=Lib.numDigits_eq n (by omega) (by omega);split at this<;>omega
 have h01:1≤Lib.nDigits n:=by rw[Lib.nDigits_big (by omega)];omega
 refine aA func231 F ntmps231 F ?_
 refine aQ (aS (bq (aN (aX bN ?_))))
 refine bW ?_
 refine br (bo cV (bi (bf (aE (aQ (ax (b_ W2 (fun bA=>?_))))) (am Value.bool (a8 (show¬(n:Int)<100 by omega))))))
 refine bi (a7 (TO.lc Xg (aO (fun w1 hI=>by haveI:=hI.tab (P:=prog);exact ndF w1 n (by omega) hn)) ?_))
 rintro v O' ⟨N,rfl,rfl,rfl⟩
 refine aj (bo (DE underlying260 eN F F (by omega) h01) (aN ?_))
 have hk:=(Q5 (base:=base) (b:=bA) (T:=260) (n:=n) (fun j hj=>Lib.zeros24_at j hj) (by omega) hn Go.Proofs.Tryz.internal_strconv_formatBase10).under (O:=[eu bA (.cells Lib.zeros24 260 (0,0)),az b c 5 1 (dy l)]) (B:=[az b c 5 1 (dy l)]) (cd (aP _))
 refine TO.lc Xh hk ?_
 clear hk
 rintro v O' ⟨O1,rfl,rfl,cs,rfl,yx⟩
 refine bi (a7 (ay (DE underlying260 eN F F (by omega) h01) (ax (J3 (new:=dy (Lib.decDigits n)) 0 1 underlying43 underlying43 eN F F F F (by simp[dy,hl]) (by simp[dy,Lib.decDigits_length]) F yx (yK _) (by omega) (by decide) (by decide) (fun b2 c2=>?_)))))
 refine aj (cM ?_)
 refine aF (.slice b2 (m+Lib.nDigits n) c2) results231 F ?_
 refine⟨b2,c2,by rw[Lib.decDigits_length],bA,cs,?_⟩
 rw[show dy (l++Lib.decDigits n)=dy l++dy (Lib.decDigits n)from bm];rfl
theorem D_ (base:World) (b:Option Addr) (c c' m n:Nat) (l:List UInt8) (hl:l.length=m) (hn:n<100) (hm:m≤1000000):
  cx prog base 231 [.slice b m c,.int .u64 (n:Int),vI 10] [az b c 5 1 (dy l)] (fun v O'=> ∃b' c',v=.slice b' (m+(Lib.decDigits n).length) c'∧O'=[az b' c' 5 1 (dy (l++Lib.decDigits n))]):=by
 refine aA func231 F ntmps231 F ?_
 refine aQ (aS (bq (aN (aX bN ?_))))
 refine bW ?_
 refine br (bo cV (bi ?_))
 refine bW ?_ (am Value.bool (aZ (show(n:Int)<100 by omega)))
 refine a7 (ay (gi underlying256 underlying3 F (show IntKind.i64.wrap (n:Int)=(n:Int)from gX (by omega))) ?_)
 have rP:=fun(w1:World) (hI:Inv base [az b c 5 1 (dy l)] w1)=>XT w1 n hn
 refine TO.lc Xf (aO rP) ?_
 clear rP
 rintro v O' ⟨N,rfl,rfl,rfl⟩
 refine ax (Bh (s:=Lib.decDigits n) 0 underlying43 underlying9 eN F F F F (by simp[hl]) F (by have:=uO 1 n (by omega);omega) (by decide) (by decide) (fun b2 c2=>?_))
 refine aj (cM ?_)
 refine aF (.slice b2 (m+(Lib.decDigits n).length) c2) results231 F ?_
 exact⟨b2,c2,F,by rw[show dy (l++Lib.decDigits n)=dy l++dy (Lib.decDigits n)from bm];rfl⟩
theorem PM (base:World) [dQ prog base] (b:Option Addr) (c c' m n:Nat) (l:List UInt8) (hl:l.length=m) (hn:n<1000000000000) (hm:m≤1000000):
  cx prog base 231 [.slice b m c,.int .u64 (n:Int),vI 10] [az b c 5 1 (dy l)] (fun v O'=> ∃b' c',v=.slice b' (m+(Lib.decDigits n).length) c'∧O'=[az b' c' 5 1 (dy (l++Lib.decDigits n))]):=by
 by_cases h:n<100
 ·exact D_ base b c c' m n l hl h hm
 ·exact(PL base b c c' m n l hl hn (by omega) hm).drop fun v O' ⟨b',c',h1,k,cs,h2⟩=>⟨_,h2▸cd (List.sublist_cons_self _ _),b',c',h1,F⟩
theorem SS (base:World) [dQ prog base] (b:Option Addr) (c c' m n:Nat) (l:List UInt8) (hl:l.length=m) (hn:n<1000000000000) (hm:m≤1000000):
  cx prog base 210 [.slice b m c,vI (n:Int),vI 10] [az b c 5 1 (dy l)] (fun v O'=> ∃b' c',v=.slice b' (m+(Lib.decDigits n).length) c'∧O'=[az b' c' 5 1 (dy (l++Lib.decDigits n))]):=by
 refine aA func210 F ntmps210 F ?_
 refine aQ (aj (bo (gi underlying2 underlying256 F (show IntKind.u64.wrap (n:Int)=(n:Int) by unfold IntKind.wrap;simp[IntKind.bits,IntKind.signed];omega)) (aS (bq (aN (aX cV (bf ?_ (am Value.bool (a8 (show¬(n:Int)<0 by omega))))))))))
 refine aE (a7 (de ?_))
 have oh:=PM base b c c' m n l hl hn hm
 refine TO.lc Na oh ?_
 clear oh
 rintro v O' ⟨b2,c2,rfl,rfl⟩
 refine aj (cM ?_)
 refine aF (.slice b2 (m+(Lib.decDigits n).length) c2) results210 F ?_
 exact⟨b2,c2,F,F⟩
theorem VN (base:World) [dQ prog base] (b:Option Addr) (c c' m n:Nat) (l:List UInt8) (hl:l.length=m) (hn:n<1000000000000) (hm:m≤1000000):
  cx prog base 160 [.slice b m c,vI (n:Int),vI 10] [az b c 5 1 (dy l)] (fun v O'=> ∃b' c',v=.slice b' (m+(Lib.decDigits n).length) c'∧O'=[az b' c' 5 1 (dy (l++Lib.decDigits n))]):=by
 refine aA func160 F ntmps160 F ?_
 refine aQ (aj (a7 (de ?_)))
 have rL:=SS base b c c' m n l hl hn hm
 refine TO.lc Nb rL ?_
 clear rL
 rintro v O' ⟨b2,c2,rfl,rfl⟩
 refine aj (cM ?_)
 refine aF (.slice b2 (m+(Lib.decDigits n).length) c2) results160 F ?_
 exact⟨b2,c2,F,F⟩
theorem PG (w:World) [dQ prog w] (n:Nat) (hn:n<1000000000000):cB prog 85 [vI (n:Int)] w fun v N=>v=str (Lib.decDigits n)∧N=[]:=fun w1 M hI=>
 (Go.Proofs.Tryz.strconv_Itoa n (by omega) (by omega) w1 (dQ.is (hI.tab (P:=prog)))).mono (by rintro e w' ⟨rfl,k,os,rfl⟩;exact⟨_,[],F,hI.grow k os,by rw[Lib.itoa_nonneg];rfl,F⟩)
theorem eP {w w1:World} {O:List Lx.Item} [dQ prog w] (h:Inv w O w1):dQ prog w1:=Inv.tab (P:=prog) h
theorem aW {w:World} {O:List Lx.Item} {f:FuncId} {args:List Value} {R:Value→List Lx.Item→Prop} [dQ prog w] (h: ∀(w1:World) [dQ prog w1],cB prog f args w1 R):cx prog w f args O (fun v O2=> ∃N,O2=N++O∧R v N):=aO fun w1 hI=>haveI:=eP hI;h w1
abbrev uT2:= @underlying2
abbrev eO:= @underlying3
abbrev uT:= @underlying4
abbrev il:= @underlying5
abbrev wZ:= @underlying9
abbrev eY:= @underlying22
abbrev eS:= @underlying23
abbrev dm:= @underlying25
abbrev pH:= @underlying27
abbrev dX:= @underlying32
abbrev kR:= @underlying43
abbrev da:= @underlying56
abbrev vZ:= @underlying67
abbrev gC:= @underlying69
abbrev dz:= @underlying72
abbrev yZ:= @underlying73
abbrev mW:= @underlying75
abbrev xH:= @underlying79
abbrev mj:= @underlying81
abbrev ni:= @underlying91
abbrev EN:= @underlying96
abbrev xJ:= @underlying97
abbrev TD:= @underlying101
abbrev fU:= @underlying112
abbrev gV:= @underlying114
abbrev ji:= @underlying118
abbrev oW:= @underlying120
abbrev m_:= @underlying122
abbrev l7:= @underlying129
abbrev pV:= @underlying138
abbrev Oz:= @underlying140
abbrev gD:= @underlying149
abbrev uQ:= @underlying153
abbrev Z2:= @underlying159
abbrev jo:= @underlying160
abbrev Ie:= @underlying163
abbrev EF:= @underlying166
abbrev kq:= @underlying167
abbrev mv:= @underlying169
abbrev ll:= @underlying173
abbrev abI:= @underlying180
abbrev abS:= @underlying197
abbrev oV:= @underlying208
abbrev TX:= @underlying209
abbrev xu:= @underlying227
abbrev pU:= @underlying234
abbrev oD:= @underlying235
abbrev vA:= @underlying236
abbrev qR:= @underlying238
abbrev Z1:= @underlying244
abbrev ZX:= @underlying256
theorem Sz (base:World) [dQ prog base] (bx m:Nat) (ks:List (List UInt8)) (key:List UInt8) (hk:key∈ks) (hb:ks.length<1000000):
  cx prog base 168 [str key,.pointer (aD bx)] [eu bx (.cells #[.map (some m)] 160 (0,0)),dZ str (fun n:Nat=>Value.int .i64 (n:Int)) m ks.zipIdx] (fun v O'=>v=vN (ix key (add ks key))∧O'=[eu bx (.cells #[.map (some m)] 160 (0,0)),dZ str (fun n:Nat=>Value.int .i64 (n:Int)) m (add ks key).zipIdx]):=by
 refine aA func168 F ntmps168 F ?_
 refine aQ (aj (aG (bF 0 jo) (ay (cg (kF (a:=key) jo bM (ie.string wZ) F F (mG 1)) (v':=(.tuple #[vN (ix key ks),.bool true])) (by rw[l8];simp[hk])) (ay (bI _) (ae (bI _) (aS (aS (bq (aN (aX g_ ?_))))))))))
 refine bf (aE (a7 (aj (cM ?_))))
 refine aF (vN (ix key ks)) results168 F ?_
 have ha:add ks key=ks:=aB hk
 rw[ha];exact⟨F,F⟩
theorem Pc (base:World) [dQ prog base] (bx m:Nat) (ks:List (List UInt8)) (key:List UInt8) (hk:key∉ks) (hb:ks.length<1000000):
  cx prog base 168 [str key,.pointer (aD bx)] [eu bx (.cells #[.map (some m)] 160 (0,0)),dZ str (fun n:Nat=>Value.int .i64 (n:Int)) m ks.zipIdx] (fun v O'=>v=vN (ix key (add ks key))∧O'=[eu bx (.cells #[.map (some m)] 160 (0,0)),dZ str (fun n:Nat=>Value.int .i64 (n:Int)) m (add ks key).zipIdx]):=by
 refine aA func168 F ntmps168 F ?_
 refine aQ (aj (aG (bF 0 jo) (ay (cg (kF (a:=key) jo bM (ie.string wZ) F F (mG 1)) (v':=(.tuple #[vI 0,.bool false])) (by rw[l8];simp[hk])) (ay (bI _) (ae (bI _) (aS (aS (bq (aN (aX g_ ?_))))))))))
 refine bW ?_
 refine aG (bF 0 jo) (ae (cg (rv jo F (mG 1)) (v':=vN ks.length) (by simp)) (aj (a_ (ae (bF 0 jo) (de (ax (rz (a:=key) (v:=ks.length) 1 jo (ie.string wZ) F F F F (by rw[nX];exact hk) ?_)))))))
 refine bi (a7 (aj (cM ?_)))
 refine aF (vN ks.length) results168 F ?_
 have ha:add ks key=ks++[key]:=aq hk
 rw[ha]
 refine⟨by rw[gr hk];simp[ix],?_⟩
 rw[show(ks++[key]).zipIdx=ks.zipIdx++[(key,ks.length)] by rw[List.zipIdx_append];simp];rfl
theorem aeL (base:World) [dQ prog base] (bx m:Nat) (ks:List (List UInt8)) (key:List UInt8) (hb:ks.length<1000000):
  cx prog base 168 [str key,.pointer (aD bx)] [eu bx (.cells #[.map (some m)] 160 (0,0)),dZ str (fun n:Nat=>Value.int .i64 (n:Int)) m ks.zipIdx] (fun v O'=>v=vN (ix key (add ks key))∧O'=[eu bx (.cells #[.map (some m)] 160 (0,0)),dZ str (fun n:Nat=>Value.int .i64 (n:Int)) m (add ks key).zipIdx]):=by
 by_cases hk:key∈ks
 ·exact Sz base bx m ks key hk hb
 ·exact Pc base bx m ks key hk hb
theorem Ux (w:World) [dQ prog w] (d:c_) (nb fb:Option Addr) (nc fc:Nat):cB prog 51 [.agg (fe d nb nc fb fc).toArray] w fun v N=> ∃b,v=.func (.func 82) #[] #[.pointer (aD b)]∧N=[oI b 25 [(vI d.vars),(vI d.start),(.slice nb d.next.length nc),(.slice fb d.aT.length fc)]]:=by
 refine aA func51 F ntmps51 F ?_
 refine aQ (ax (ef [(vI d.vars),(vI d.start),(.slice nb d.next.length nc),(.slice fb d.aT.length fc)] (fun b1=>?_)))
 refine aj (aG (fI) (aj (cM ?_)))
 refine aF (.func (.func 82) #[] #[(.pointer (aD b1))]) results51 F ?_
 exact⟨b1,F,F⟩
theorem Uy (base:World) [dQ prog base] (d:c_) (nb fb:Option Addr) (nc fc:Nat) (vs:List Value) (h:jg base d nb vs fb) (hb:d.next.length<9223372036854775807) (bx:Nat) (yv:Value) (J:Nat→List Lx.Item→Prop) (Q:List Lx.Item→Prop)
  (hy: ∀k (hk:k<d.next.length) (vb:Option Addr) (vc:Nat) (O:List Lx.Item),vs[k]? =some (.slice vb d.next[k].length vc)→Sl base vb (ints d.next[k])→J k O→
   fh prog base yv [vI (k:Int),.slice vb d.next[k].length vc] O (fun v O'=>(v=.bool true∧J (k+1) O')∨(v=.bool false∧Q O')))
  (O:List Lx.Item) (h0:J 0 O):cx prog base 82 [yv,.pointer (aD bx)] (oI bx 25 [(vI d.vars),(vI d.start),(.slice nb d.next.length nc),(.slice fb d.aT.length fc)]::O) (fun _ O'=>J d.next.length O'∨Q O'):=by
 refine aA func82 F ntmps82 F ?_
 have Qe:=h.rows.1
 refine aG (bu dm fx) (ae (bF 0 eY) (ae (cL eY) (bH (aK ?_))))
 let eH:List Lx.Item:=[oI bx 25 [(vI d.vars),(vI d.start),(.slice nb d.next.length nc),(.slice fb d.aT.length fc)]]
 refine dU (fun(k:Nat) ρ O=> ∃(O1:List Lx.Item),O=(eH++O1)∧k≤d.next.length∧J k O1∧dh [(0,yv),(1,(.pointer (aD bx))),(6,(.slice nb d.next.length nc)),(7,vI (d.next.length:Int)),(8,vI (k:Int))] ρ) (fun k=>d.next.length-k) 0 ?_ ?_
 ·exact⟨O,F,bj _,h0,(.of F)⟩
 rintro k ρ O ⟨O1,rfl,hk,hJ,hH⟩
 obtain⟨gv,rfl⟩:=hH.elim
 clear hH
 refine aG cV (dJ (aL F (fun hc=>?_) (fun hc=>?_)))
 ·have lQ:k<d.next.length:=by omega
  obtain⟨vb,vc,g1,s1⟩:=h.rows.get lQ
  refine aE (br (aK (bo (dB k eY eo F F (a6 h.outer)) (ae (dD da F F h.outer g1) (aS (aj (a7 (de ?_))))))))
  have rP:=fh.under (B:=eH) (O:=(eH++O1)) (hy k lQ vb vc O1 g1 s1 hJ) (iq [])
  refine ax (fT rP F F ?_)
  clear rP
  rintro v O' ⟨O2,rfl,⟨rfl,Yw⟩|⟨rfl,hQ2⟩⟩
  ·refine ae g_ ?_
   refine bi (bf (aE ?_))
   refine dq (O':=oI bx 25 [(vI d.vars),(vI d.start),(.slice nb d.next.length nc),(.slice fb d.aT.length fc)]::O2) (iq []) ?_
   refine a_ (ae (lF F F (by omega)) (bH ?_))
   exact⟨k+1,by omega,O2,F,by omega,Yw,(.of F)⟩
  refine aX g_ ?_
  refine bW ?_
  refine cM (dS ?_)
  refine qS.zero results82 ?_
  exact⟨O2,iq eH,.inr hQ2⟩
 have Nd: ¬k<d.next.length:=by omega
 refine cD ?_
 refine dS ?_
 refine qS.zero results82 ?_
 have Yr:k=d.next.length:=by omega
 subst Yr
 exact⟨O1,iq eH,.inl hJ⟩
theorem SA (w:World) [dQ prog w] (d:c_) (nb fb:Option Addr) (nc fc:Nat) (vs:List Value) (h:jg w d nb vs fb) (hv:Valid d) (cb:Option Addr) (cc:Nat) (cs:List Nat) (yx:Sl w cb (cm cs)) (pm:cs.length=d.next.length) (FZ: ∀x∈cs,x<10000):
  cB prog 119 [.agg (fe d nb nc fb fc).toArray,.slice cb d.next.length cc] w fun v N=> ∃b c,v=.slice b d.next.length c∧N=[az b c 3 1 (cm (jC d cs))]:=by
 refine aA func119 F ntmps119 F ?_
 have hb:d.next.length<9223372036854775807:=by have:=hv.n4;omega
 have Qe:=h.rows.1
 have hn4:=hv.n4
 let np:Value:=(.slice fb d.aT.length fc)
 let li:Value:=(.slice nb d.next.length nc)
 refine aQ (ax (ef [(vI d.vars),(vI d.start),li,np] (fun b1=>?_)))
 refine ax (ef [(.slice cb d.next.length cc)] (fun b2=>?_))
 refine aj (aQ (ax (mA str (fun n:Nat=>Value.int .i64 (n:Int)) (fun m3=>?_))))
 refine ax (b_ CL (fun b4=>?_))
 refine ax (c8 [(.map (some m3))] 0 CL ?_)
 refine bi (aG (fI) (ax (b_ OE (fun b5=>?_))))
 refine ax (c8 [(.func (.func 168) #[] #[(.pointer (aD b4))])] 0 OE ?_)
 refine bi (aG (bF 3 da) (ae (cL da) (ax (fg d.next.length da bM F F (by omega) (by omega) (fun b6=>?_)))))
 refine ax (b_ eo (fun b7=>?_))
 refine ax (c8 [(.slice (aD b6) d.next.length d.next.length)] 0 eo ?_)
 refine bq (ae (eR 6 dm bY) ?_)
 let fR:Lx.Item:=oI b5 180 [(.func (.func 168) #[] #[(.pointer (aD b4))])]
 let gn:Lx.Item:=oI b7 56 [(.slice (aD b6) d.next.length d.next.length)]
 let jz:Lx.Item:=oI b4 160 [(.map (some m3))]
 have rK:=fun(w1:World) (hI:Inv w [gn,bJ b6 d.next.length 3 1 (List.replicate d.next.length (vI 0)),fR,jz,dZ str (fun n:Nat=>Value.int .i64 (n:Int)) m3 [],oI b2 56 [(.slice cb d.next.length cc)],oI b1 25 [(vI d.vars),(vI d.start),(.slice nb d.next.length nc),(.slice fb d.aT.length fc)]] w1)=>(haveI:=eP hI;Ux w1 d nb fb nc fc)
 refine TO.lc Uo (aO rK) ?_
 clear rK
 rintro v O' ⟨N,rfl,bR,rfl,rfl⟩
 refine bi (aK ?_)
 refine T.rangeFunc (first:=[]) (gU:=[(.pointer (aD bR))]) F Ur (fun yl yq yhq=>?_)
 let gd:Lx.Item:=oI b1 25 [(vI d.vars),(vI d.start),(.slice nb d.next.length nc),(.slice fb d.aT.length fc)]
 let kp:Lx.Item:=oI b2 56 [(.slice cb d.next.length cc)]
 refine cx.mono (cx.sub (O':=oI bR 25 [(vI d.vars),(vI d.start),li,np]::(eu yl (lp yq none)::[gn,bJ b6 d.next.length 3 1 (List.replicate d.next.length (vI 0)),fR,jz,dZ str (fun n:Nat=>Value.int .i64 (n:Int)) m3 [],kp,gd])) (cH [1,0,0,0,0,0,0,0,0]) (Uy w d nb fb nc fc vs h hb bR (.func (.yield yl) #[] #[]) (fun k O=> ∃(xs:List Nat) (ks:List (List UInt8)),O=eu yl (lp yq none)::[gn,bJ b6 d.next.length 3 1 (cm xs),fR,jz,dZ str (fun n:Nat=>Value.int .i64 (n:Int)) m3 ks.zipIdx,kp,gd]∧k≤d.next.length∧xs.length=d.next.length∧ks=dd ((jL d cs).take k)∧(∀s,s<k→xs[s]? =some (ix (zP d cs s) ks))) (fun _=>False) ?_ _ ?_)) ?_
 ·intro k gQ vb vc O g1 s1 hJ
  obtain⟨xs,ks,rfl,hk,Gi,pu,ld⟩:=hJ
  refine fh.yield yhq F F ?_
  have hkc:k<cs.length:=by omega
  have rn:d.next[k].length=2^d.vars.toNat:=hv.len _ (av gQ)
  have L5:d.next[k].length≤64:=by
   rw[rn];have:=hv.v6;have:=hv.v0
   exact bE (ck (by omega) (show d.vars.toNat≤6 by omega)) (by decide)
  have aeN:ks.length<1000000:=by
   have h1:=wu ((jL d cs).take k)
   have h2:((jL d cs).take k).length≤d.next.length:=by rw[db];simp[jL];omega
   rw[pu];omega
  have vh: ∀j (hj:j<d.next[k].length),0≤d.next[k][j]∧d.next[k][j].toNat<cs.length:=fun j hj=>by have:=hv.ok _ (av gQ) _ (av hj);omega
  have Yx:cs[k]<10000:=FZ _ (av hkc)
  have Np: ∀x∈gE cs d.next[k],x<10000:=SB FZ
  refine aQ (aj (a_ (aj (aK (br (T.fJ 5 1 ?_))))))
  refine a_ (ae (bF 6 da) (ay (dB k da bM F F (a6 yx)) (ae (dD eO F F yx iT) ?_)))
  let iB:Lx.Item:=bJ b6 d.next.length 3 1 (cm xs)
  have Pd:=cx.under (B:=[gn,iB,fR,jz,dZ str (fun n:Nat=>Value.int .i64 (n:Int)) m3 ks.zipIdx,kp,gd]) (O:=[az none 0 5 1 (dy []),gn,iB,fR,jz,dZ str (fun n:Nat=>Value.int .i64 (n:Int)) m3 ks.zipIdx,kp,gd]) (VN w none 0 0 0 cs[k] [] F (Nat.lt_trans Yx (by decide)) (by omega)) (cH [0,0,0,0,0,0,0,0])
  refine TO.lc Co Pd ?_
  clear Pd
  rintro v O' ⟨A1,rfl,kb,kc,rfl,rfl⟩
  refine aS (bq (ay (cL da) (bH (aK ?_))))
  refine dU (fun(j:Nat) ρ O=> ∃(kb:Option Addr) (kc m:Nat),O=[az kb kc 5 1 (dy (jH cs[k] (List.take j (gE cs d.next[k])))),gn,iB,fR,jz,dZ str (fun n:Nat=>Value.int .i64 (n:Int)) m3 ks.zipIdx,kp,gd]∧j≤d.next[k].length∧m=(jH cs[k] (List.take j (gE cs d.next[k]))).length∧dh [(0,(.agg #[(vI d.vars),(vI d.start),li,np])),(1,(.slice cb d.next.length cc)),(2,(.pointer (aD b1))),(3,(.pointer (aD b2))),(4,nS),(5,(.pointer (aD b4))),(6,(.pointer (aD b5))),(7,(.pointer (aD b7))),(8,vI (k:Int)),(9,(.slice vb d.next[k].length vc)),(10,(.slice kb m kc)),(27,(.slice vb d.next[k].length vc)),(28,vI (d.next[k].length:Int)),(29,vI (j:Int))] ρ) (fun j=>d.next[k].length-j) 0 ?_ ?_
  ·refine⟨kb,kc,_,?_,bj _,?_,(.of F)⟩
   ·rw[show jH cs[k] (List.take 0 (gE cs d.next[k]))=[]++Lib.decDigits cs[k] by simp[jH,ko]]
    rfl
   ·simp[jH,ko]
  rintro j ρ O ⟨kb,kc,m,rfl,hj,hm,hH⟩
  obtain⟨gv,rfl⟩:=hH.elim
  clear hH
  have hm9:m≤324:=by
   have:=Pe Yx (fun x hx=>Np x (List.mem_of_mem_take hx): ∀x∈List.take j (gE cs d.next[k]),x<10000)
   rw[db]at this;omega
  refine aG cV (dJ (aL F (fun hc=>?_) (fun hc=>?_)))
  ·have jx:j<d.next[k].length:=by omega
   have htj:=(vh j jx).2
   refine aE (br (aK (aG (dB j da bM F F (a6 s1)) (ae (dD eO F F s1 gL) (aj ?_)))))
   refine T.ds [kp] [(0,0),(3,0),(4,0),(5,0),(6,0),(1,1),(2,1),(7,2),(8,2)] (cH [6]) ?_
   refine ap F aw (ap F (bF 0 da) (ap F aw (ap F (HW (i:=d.next[k][j]) da bM F F (a6 yx) (vh j jx).1 (pm▸(vh j jx).2) (by rw[ai];exact(vh j jx).2)) (ap F (dD eO F F yx (iT (vh j jx).2)) ?_))))
   refine cG F F (dL (v:=.int .u8 32) kR eN F F F (fun b8=>⟨cH [7],?_⟩))
   refine cG F F (dE 1 kR kR eN F F F F (by rw[ai,←hm,Nat.mul_one]) (by decide) (Src.row (j:=0) F (by simp)) (by simp[fS]) (by omega) (by decide) (by decide) (fun b9 c10=>⟨cH [7],?_⟩))
   have pI:=cx.under (B:=[bJ b8 1 5 1 [.int .u8 32],gn,iB,fR,jz,dZ str (fun n:Nat=>Value.int .i64 (n:Int)) m3 ks.zipIdx,kp,gd]) (O:=[bJ b8 1 5 1 [.int .u8 32],az b9 c10 5 1 ((dy (jH cs[k] (List.take j (gE cs d.next[k]))))++[.int .u8 32]),gn,iB,fR,jz,dZ str (fun n:Nat=>Value.int .i64 (n:Int)) m3 ks.zipIdx,kp,gd]) (VN w b9 c10 c10 (m+1) cs[d.next[k][j].toNat] (jH cs[k] (List.take j (gE cs d.next[k]))++[32]) (by rw[aJ,←hm];rfl) (Nat.lt_trans (FZ _ (av (vh j jx).2)) (by decide)) (by omega)) (by rw[Fc];exact(cH [1,0,0,0,0,0,0,0,0]))
   refine cA F F (eh Co pI ?_)
   clear pI
   rintro v O' ⟨A1,rfl,kb3,kc3,rfl,rfl⟩
   refine fj (O':=[az kb3 kc3 5 1 (dy (jH cs[k] (List.take j (gE cs d.next[k]))++[32]++Lib.decDigits cs[d.next[k][j].toNat])),gn,iB,fR,jz,dZ str (fun n:Nat=>Value.int .i64 (n:Int)) m3 ks.zipIdx,kp,gd]) (cH [0,1,1,1,1,1,1,1]) ?_
   refine cA F F (eV F F cz ?_)
   refine cy ?_
   refine a_ (ae (lF F F (by omega)) (bH ?_))
   have Az:=Pf (a:=cs[k]) jx (vh j jx).2
   refine⟨j+1,by omega,kb3,kc3,_,by rw[Az],by omega,?_,(.of F)⟩
   rw[Az,aJ,aJ,←hm];rfl
  have H2: ¬j<d.next[k].length:=by omega
  refine cD ?_
  have hjf:j=d.next[k].length:=by omega
  have Uz:List.take j (gE cs d.next[k])=gE cs d.next[k]:=bt (by simp[gE];omega)
  have hKE:zP d cs k=jH cs[k] (gE cs d.next[k]):=SC gQ hkc
  let sJ:Lx.Item:=az kb kc 5 1 (dy (jH cs[k] (List.take j (gE cs d.next[k]))))
  refine T.ds [sJ,gn,iB,fR,jz,kp,gd] [(0,0),(1,0),(2,0),(3,0),(4,0),(5,1),(6,0),(7,2)] (cH [0,0,0,0,0,1,1]) ?_
  refine ap F (bF 1 da) (ap F aw (ap F (bF 3 abI) (ap F aw (ap F (DA (l:=jH cs[k] (List.take j (gE cs d.next[k]))) kR wZ il F (mG 0) hm.symm) ?_))))
  have abJ:=cZ (first:=[]) (args:=[str (jH cs[k] (List.take j (gE cs d.next[k])))]) (gU:=[(.pointer (aD b4))]) Xc (cx.under (B:=[sJ,gn,iB,fR,kp,gd]) (O:=[sJ,gn,iB,fR,jz,dZ str (fun n:Nat=>Value.int .i64 (n:Int)) m3 ks.zipIdx,kp,gd]) (aeL w b4 m3 ks (jH cs[k] (List.take j (gE cs d.next[k]))) aeN) (cH [4,4,0,0,0,0,0,0]))
  refine cG F F (fT abJ F F ?_)
  clear abJ
  rintro v O' ⟨A1,rfl,rfl,rfl⟩
  refine⟨cH [2,2,2,2,0,1,1],?_⟩
  refine fj (O':=[sJ,gn,iB,fR,jz,dZ str (fun n:Nat=>Value.int .i64 (n:Int)) m3 ((add ks (jH cs[k] (List.take j (gE cs d.next[k])))).zipIdx),kp,gd]) (cH [2,2,2,2,0,0,0,0]) ?_
  refine ap F (dB k da bM F F (eA 2)) ?_
  refine cA F F (n7 (v:=vI ((ix (jH cs[k] (List.take j (gE cs d.next[k]))) (add ks (jH cs[k] (List.take j (gE cs d.next[k])))):Nat):Int)) (vs:=[(vI ((ix (jH cs[k] (List.take j (gE cs d.next[k]))) (add ks (jH cs[k] (List.take j (gE cs d.next[k])))):Nat):Int))]) (cs:=cm xs) k 2 bM F F F F F (by simp) F (by first|(simp;omega)|(simp_all;omega)) ?_)
  let qM:Lx.Item:=bJ b6 d.next.length 3 1 (cm (xs.set k (ix (jH cs[k] (List.take j (gE cs d.next[k]))) (add ks (jH cs[k] (List.take j (gE cs d.next[k])))))))
  refine fj (O':=[sJ,gn,qM,fR,jz,dZ str (fun n:Nat=>Value.int .i64 (n:Int)) m3 ((add ks (jH cs[k] (List.take j (gE cs d.next[k])))).zipIdx),kp,gd]) (by rw[show fC (cm xs) k [(vI ((ix (jH cs[k] (List.take j (gE cs d.next[k]))) (add ks (jH cs[k] (List.take j (gE cs d.next[k])))):Nat):Int))]=cm (xs.set k (ix (jH cs[k] (List.take j (gE cs d.next[k]))) (add ks (jH cs[k] (List.take j (gE cs d.next[k]))))))from by simp[fC]];exact cd (aP _)) ?_
  refine fj (O':=[gn,qM,fR,jz,dZ str (fun n:Nat=>Value.int .i64 (n:Int)) m3 ((add ks (jH cs[k] (List.take j (gE cs d.next[k])))).zipIdx),kp,gd]) (cH [1,1,1,1,1,1,1]) ?_
  refine cy ?_
  refine .inl ⟨F,xs.set k (ix (jH cs[k] (List.take j (gE cs d.next[k]))) (add ks (jH cs[k] (List.take j (gE cs d.next[k]))))),add ks (jH cs[k] (List.take j (gE cs d.next[k]))),F,by omega,by simp[Gi],?_,?_⟩
  ·rw[Hk gQ,CW,←pu,hKE,Uz]
  ·intro s hs
   by_cases e:s=k
   ·subst e;rw[List.getElem?_set_self (by omega),hKE,Uz]
   ·rw[List.getElem?_set_ne (fun h=>e h.symm),ld s (by omega)]
    refine am some (iM (kH _ _) ?_).symm
    rw[pu];exact kY.2 (Pg (by omega) (by omega))
 ·refine⟨List.replicate d.next.length 0,[],?_,bj _,by simp,by simp[dd],fun s hs=>absurd hs (by omega)⟩
  simp
 rintro v O' (⟨xs,ks,rfl,hk,Gi,pu,ld⟩|hF)
 rotate_left
 ·exact hF.elim
 refine⟨none,_,F,?_⟩
 refine aG (bF 0 da) (aR ?_)
 refine aF (.slice (aD b6) d.next.length d.next.length) results119 F ?_
 have hx:xs=jC d cs:=by
  apply List.ext_getElem?
  intro s
  by_cases hs:s<d.next.length
  ·rw[ld s hs,pu,bt (by simp[jL])];simp[jC,jL,hs]
  ·rw[cn (by omega),cn (by simp[jC,jL];omega)]
 exact⟨[bJ b6 d.next.length 3 1 (cm xs)],(cH [1]),_,_,F,by rw[hx]⟩
theorem Xu (w:World) [dQ prog w] (d:c_) (nb fb:Option Addr) (nc fc:Nat) (vs:List Value) (h:jg w d nb vs fb) (hv:Valid d):
  cB prog 118 [.agg (fe d nb nc fb fc).toArray] w fun v N=> ∃b c,v=.slice b d.next.length c∧N=[az b c 3 1 (cm (nr d))]:=by
 refine aA func118 F ntmps118 F ?_
 have hn4:=hv.n4
 have Mm:=hv.n0
 have oG:=hv.fin
 refine aQ (ax (ef [(vI d.vars),(vI d.start),(.slice nb d.next.length nc),(.slice fb d.aT.length fc)] (fun b1=>?_)))
 refine aj (aG (bu dm fx) (ae (bF 0 eY) (ae (cL eY) (ax (fg d.next.length da bM F F (by omega) (by omega) (fun b2=>?_))))))
 refine aS (bq (ay (cL da) (bH (aK ?_))))
 refine dU (fun(k:Nat) ρ O=> ∃(xs:List Nat),O=[bJ b2 d.next.length 3 1 (cm xs),oI b1 25 [(vI d.vars),(vI d.start),(.slice nb d.next.length nc),(.slice fb d.aT.length fc)]]∧k≤d.next.length∧xs.length=d.next.length∧(∀s,s<k→xs[s]? =some (if d.aT.getD s false≠d.aT.getD 0 false then 1 else 0))∧(∀s,k≤s→s<d.next.length→xs[s]? =some 0)∧dh [(0,(.agg #[(vI d.vars),(vI d.start),(.slice nb d.next.length nc),(.slice fb d.aT.length fc)])),(1,(.pointer (aD b1))),(2,nS),(3,(.slice (aD b2) d.next.length d.next.length)),(10,vI (d.next.length:Int)),(11,vI (k:Int))] ρ) (fun k=>d.next.length-k) 0 ?_ ?_
 ·refine⟨List.replicate d.next.length 0,by simp,bj _,by simp,fun s hs=>absurd hs (by omega),fun s _ hs=>by simp[hs],(.of F)⟩
 rintro k ρ O ⟨xs,rfl,hk,Gi,Ph,Pj,hH⟩
 obtain⟨gv,rfl⟩:=hH.elim
 clear hH
 refine aG cV (dJ (aL F (fun hc=>?_) (fun hc=>?_)))
 ·have pJ:k<d.next.length:=by omega
  have Xv:k<d.aT.length:=by omega
  have h0f:0<d.aT.length:=by omega
  have hkx:k<xs.length:=by omega
  refine aE (br (aK (a7 (aj (br ?_)))))
  refine T.ds [oI b1 25 [(vI d.vars),(vI d.start),(.slice nb d.next.length nc),(.slice fb d.aT.length fc)]] [(0,0),(1,0),(2,0),(3,0),(4,0),(5,0),(6,0),(7,0),(8,0),(9,0)] (cH [1]) ?_
  refine ap F (bu dm e7) (ap F (bF 0 eS) (ap F aw (ap F (dB k eS gq F F (a6 h.aT)) (ap F (dD uT F F h.aT j9) (ap F (bu dm e7) (ap F (bF 0 eS) (ap F (dB 0 eS gq F F (a6 h.aT)) (ap F (dD uT F F h.aT j9) (ap F (Mh uT F F) ?_)))))))))
  refine cy ?_
  refine aL (p:= ¬d.aT[k]=d.aT[0]) (am Value.bool (by cases d.aT[k]<;>cases d.aT[0]<;>rfl)) (fun hc=>?_) (fun hc=>?_)
  ·refine a_ ?_
   refine aN (ay (dB k da bM F F (eA 0)) (ax (n7 (v:=vI 1) (vs:=[(vI 1)]) (cs:=cm xs) k 0 bM F F F F F (by simp) F (by first|(simp;omega)|(simp_all;omega)) ?_)))
   refine dW (O':=[bJ b2 d.next.length 3 1 (cm (xs.set k 1)),oI b1 25 [(vI d.vars),(vI d.start),(.slice nb d.next.length nc),(.slice fb d.aT.length fc)]]) (by rw[show fC (cm xs) k [(vI 1)]=cm (xs.set k 1)from by simp[fC]];exact cd (aP _)) ?_
   refine bi (a_ (ae (lF F F (by omega)) (bH ?_)))
   refine⟨k+1,by omega,xs.set k 1,F,by omega,by simp[Gi],fun s hs=>?_,fun s h1 h2=>?_,(.of F)⟩
   ·by_cases e:s=k
    ·subst e;rw[List.getElem?_set_self (by omega)];simp[Xv,h0f,hc]
    ·rw[List.getElem?_set_ne (fun h=>e h.symm)];exact Ph s (by omega)
   ·rw[List.getElem?_set_ne (by omega)];exact Pj s (by omega) h2
  refine aE (a_ (ae (lF F F (by omega)) (bH ?_)))
  refine⟨k+1,by omega,xs,F,by omega,Gi,fun s hs=>?_,fun s h1 h2=>Pj s (by omega) h2,(.of F)⟩
  by_cases e:s=k
  ·subst e;rw[Pj _ (aI _) pJ];simp[Xv,h0f,Classical.not_not.1 hc]
  ·exact Ph s (by omega)
 have If: ¬k<d.next.length:=by omega
 refine cD ?_
 refine a7 (aR ?_)
 refine aF (.slice (aD b2) d.next.length d.next.length) results118 F ?_
 have hx:xs=nr d:=by
  apply List.ext_getElem?
  intro s
  by_cases hs:s<d.next.length
  ·rw[Ph s (by omega)];simp[nr,hs]
  ·rw[cn (by omega),cn (by simp[nr];omega)]
 exact⟨[bJ b2 d.next.length 3 1 (cm xs)],(cH [0]),_,_,F,by rw[hx]⟩
theorem xr (w:World) [dQ prog w] (b1 b2:Option Addr) (c1 c2 n:Nat) (xs ys:List Nat) (h1:Sl w b1 (cm xs)) (h2:Sl w b2 (cm ys)) (hx:xs.length=n) (hy:ys.length=n) (hb:n<9223372036854775807):
  cB prog 120 [.slice b1 n c1,.slice b2 n c2] w fun v N=>v=.bool (decide (xs=ys))∧N=[]:=by
 refine aA func120 F ntmps120 F ?_
 refine aQ (aS (bq (ay (cL da) (ay (cL da) (aX d_ (aL F (fun hc=>?_) (fun hc=>?_)))))))
 ·exact absurd hc (by omega)
 have w6: ¬n≠n:=by omega
 refine aE (br (bo (cL da) (bH (aK ?_))))
 refine dU (fun(k:Nat) ρ O=>O=[]∧k≤n∧xs.take k=ys.take k∧dh [(0,(.slice b1 n c1)),(1,(.slice b2 n c2)),(12,vI (n:Int)),(13,vI (k:Int))] ρ) (fun k=>n-k) 0 ?_ ?_
 ·exact⟨F,bj _,F,⟨F,F,F,F,trivial⟩⟩
 rintro k ρ O ⟨rfl,hk,he,hH⟩
 obtain⟨gv,rfl⟩:=hH.elim
 clear hH
 refine aG cV (dJ (aL F (fun hc=>?_) (fun hc=>?_)))
 ·have oL:k<n:=by omega
  have hkx:k<xs.length:=by omega
  have hky:k<ys.length:=by omega
  refine aE (br (aK (a7 (aj (br ?_)))))
  refine fW [(0,0),(1,0),(2,0),(3,0),(4,0),(5,0),(6,0),(7,0),(8,0)] ?_
  refine ap F aw (ap F aw (ap F (dB k da bM F F (a6 h1)) (ap F (dD eO F F h1 iT) (ap F aw (ap F aw (ap F (dB k da bM F F (a6 h2)) (ap F (dD eO F F h2 iT) (ap F d_ ?_))))))))
  refine cy ?_
  refine aL (p:= ¬xs[k]=ys[k]) (am Value.bool (decide_eq_decide.2 (by omega))) (fun hc=>?_) (fun hc=>?_)
  ·have j4:xs[k]≠ys[k]:=by omega
   refine aQ (aj (cM ?_))
   refine aF (.bool false) results120 F ?_
   exact⟨am Value.bool (a8 (fun e=>hc (by subst e;rfl))).symm,F⟩
  have A4: ¬xs[k]≠ys[k]:=by omega
  refine aE (a_ (ae (lF F F (by omega)) (bH ?_)))
  refine⟨k+1,by omega,F,by omega,?_,⟨F,F,F,F,trivial⟩⟩
  rw[aC hkx,aC hky,he]
  exact am _ (am (fun z=>[z]) (Classical.not_not.1 hc))
 have pk: ¬k<n:=by omega
 refine cD ?_
 refine aQ (aj (cM ?_))
 refine aF (.bool true) results120 F ?_
 exact⟨am Value.bool (aZ (show xs=ys by rw[bt (by omega),bt (by omega)]at he;exact he)).symm,F⟩
theorem KX (w:World) [dQ prog w] (d:c_) (nb fb:Option Addr) (nc fc:Nat) (vs:List Value) (h:jg w d nb vs fb) (hb:d.next.length<9223372036854775807) (uv: ∀r∈d.next,r.length<9223372036854775807) (wM:d.aT.length<9223372036854775807) (he:di d≠0) (k:Int):
  cB prog 81 [.agg (fe d nb nc fb fc).toArray,vI k] w fun v N=>v=.tuple #[nS,vI (di d:Int)]∧N=[]:=by
 refine aA func81 F ntmps81 F ?_
 refine aQ (ax (ef [(vI d.vars),(vI d.start),(.slice nb d.next.length nc),(.slice fb d.aT.length fc)] (fun b1=>?_)))
 refine aS (aS (bq (ae (eR 0 dm bY) ?_)))
 have rL:=fun(w1:World) (hI:Inv w [oI b1 25 [(vI d.vars),(vI d.start),(.slice nb d.next.length nc),(.slice fb d.aT.length fc)]] w1)=>(haveI:=eP hI;jP w1 d nb fb nc fc vs (hI.Dz h) hb uv wM)
 refine TO.lc xj (aO rL) ?_
 clear rL
 rintro v O' ⟨N,rfl,rfl,rfl⟩
 refine aj (bo (bn d_ (by omega)) (bi ?_))
 refine bW ?_
 refine a7 (aS (aR ?_))
 refine dr nS (vI (di d:Int)) results81 F F ?_
 exact⟨[],cd (bV _),F,F⟩
theorem Pk (w:World) [dQ prog w] (d:c_) (nb fb:Option Addr) (nc fc:Nat) (vs:List Value) (h:jg w d nb vs fb) (hv:Valid d) (hn:d.next.length<10000) (k:Int) (rI:k≤9223372036854775807):
  cB prog 81 [.agg (fe d nb nc fb fc).toArray,vI k] w fun v N=> ∃b c,v=.tuple #[.slice b d.next.length c,vI 0]∧N=[az b c 3 1 (cm (iL d k.toNat))]:=by
 refine aA func81 F ntmps81 F ?_
 have he:=eL.2 hv
 have hb:d.next.length<9223372036854775807:=by omega
 have uv: ∀r∈d.next,r.length<9223372036854775807:=hv.wO
 have wM:d.aT.length<9223372036854775807:=by have:=hv.fin;omega
 refine aQ (ax (ef [(vI d.vars),(vI d.start),(.slice nb d.next.length nc),(.slice fb d.aT.length fc)] (fun b1=>?_)))
 refine aS (aS (bq (ae (eR 0 dm bY) ?_)))
 have rL:=fun(w1:World) (hI:Inv w [oI b1 25 [(vI d.vars),(vI d.start),(.slice nb d.next.length nc),(.slice fb d.aT.length fc)]] w1)=>(haveI:=eP hI;jP w1 d nb fb nc fc vs (hI.Dz h) hb uv wM)
 refine TO.lc xj (aO rL) ?_
 clear rL
 rintro v O' ⟨N,rfl,rfl,rfl⟩
 rw[he]
 refine aj (bo d_ (bi (bf (aE (aG (eR 0 dm bY) ?_)))))
 have Nc:=fun(w1:World) (hI:Inv w [oI b1 25 [(vI d.vars),(vI d.start),(.slice nb d.next.length nc),(.slice fb d.aT.length fc)]] w1)=>(haveI:=eP hI;Xu w1 d nb fb nc fc vs (hI.Dz h) hv)
 refine TO.lc W4 (aO Nc) ?_
 clear Nc
 rintro v O' ⟨N,rfl,b0,c0,rfl,rfl⟩
 refine aS (bq (aN (bH (aK ?_))))
 refine dU (fun(i:Nat) ρ O=> ∃(b:Option Addr) (c:Nat),O=[az b c 3 1 (cm (iL d i)),oI b1 25 [(vI d.vars),(vI d.start),(.slice nb d.next.length nc),(.slice fb d.aT.length fc)]]∧i≤k.toNat∧dh [(0,(.agg #[(vI d.vars),(vI d.start),(.slice nb d.next.length nc),(.slice fb d.aT.length fc)])),(1,vI k),(2,(.pointer (aD b1))),(4,nS),(5,vI 0),(6,vN 0),(7,(.slice b d.next.length c)),(16,vI k),(17,vI (i:Int))] ρ) (fun i=>k.toNat-i) 0 ?_ ?_
 ·exact⟨b0,c0,F,bj _,(.of F)⟩
 rintro i ρ O ⟨b,c,rfl,Ye,hH⟩
 obtain⟨gv,rfl⟩:=hH.elim
 clear hH
 refine aG cV (dJ (aL F (fun hc=>?_) (fun hc=>?_)))
 ·have hik:i<k.toNat:=by omega
  refine aE (br (aK (aG (eR 1 dm bY) (aN ?_))))
  have abK:=fun(w1:World) (hI:Inv w [az b c 3 1 (cm (iL d i)),oI b1 25 [(vI d.vars),(vI d.start),(.slice nb d.next.length nc),(.slice fb d.aT.length fc)]] w1)=>(haveI:=eP hI;SA w1 d nb fb nc fc vs (hI.Dz h) hv b c (iL d i) (hI.ij (mG 0)) (fQ d i) (Pm hn i))
  refine TO.lc W5 (aO abK) ?_
  clear abK
  rintro v O' ⟨N,rfl,b9,c9,rfl,rfl⟩
  refine aS (bq (de ?_))
  by_cases Az:jC d (iL d i)=iL d i
  ·have zi:=fun(w1:World) (hI:Inv w [az b9 c9 3 1 (cm (jC d (iL d i))),az b c 3 1 (cm (iL d i)),oI b1 25 [(vI d.vars),(vI d.start),(.slice nb d.next.length nc),(.slice fb d.aT.length fc)]] w1)=>(haveI:=eP hI;xr w1 b9 b c9 c d.next.length (jC d (iL d i)) (iL d i) (hI.ij (mG 0)) (hI.ij (mG 1)) (fQ d (i+1)) (fQ d i) (by omega))
   refine TO.lc OH (aO zi) ?_
   clear zi
   rintro v O' ⟨N,rfl,rfl,rfl⟩
   rw[aZ Az]
   refine bi ?_
   refine bW ?_
   refine cD ?_
   refine a7 (aS (aR ?_))
   refine dr (.slice b d.next.length c) (vI 0) results81 F F ?_
   have hx:iL d k.toNat=iL d i:=uj Az _ Ye
   exact⟨[az b c 3 1 (cm (iL d i))],(cH [1]),_,_,F,by rw[hx]⟩
  have zi:=fun(w1:World) (hI:Inv w [az b9 c9 3 1 (cm (jC d (iL d i))),az b c 3 1 (cm (iL d i)),oI b1 25 [(vI d.vars),(vI d.start),(.slice nb d.next.length nc),(.slice fb d.aT.length fc)]] w1)=>(haveI:=eP hI;xr w1 b9 b c9 c d.next.length (jC d (iL d i)) (iL d i) (hI.ij (mG 0)) (hI.ij (mG 1)) (fQ d (i+1)) (fQ d i) (by omega))
  refine TO.lc OH (aO zi) ?_
  clear zi
  rintro v O' ⟨N,rfl,rfl,rfl⟩
  rw[a8 Az]
  refine bi (bf (aE (a_ (aN (aj (a_ (ae (lF F F (by omega)) (aN ?_))))))))
  refine dW (O':=[az b9 c9 3 1 (cm (jC d (iL d i))),oI b1 25 [(vI d.vars),(vI d.start),(.slice nb d.next.length nc),(.slice fb d.aT.length fc)]]) (cH [0,1]) ?_
  refine bi ?_
  exact⟨i+1,by omega,b9,c9,F,by omega,(.of F)⟩
 refine cD ?_
 refine a7 (aS (aR ?_))
 refine dr (.slice b d.next.length c) (vI 0) results81 F F ?_
 have hx:iL d k.toNat=iL d i:=by rw[show k.toNat=i by omega]
 exact⟨[az b c 3 1 (cm (iL d i))],(cH [0]),_,_,F,by rw[hx]⟩
theorem Hl (w:World) [dQ prog w] (d:c_) (nb fb:Option Addr) (nc fc:Nat) (vs:List Value) (h:jg w d nb vs fb) (hb:d.next.length<9223372036854775807) (uv: ∀r∈d.next,r.length<9223372036854775807) (wM:d.aT.length<9223372036854775807) (he:di d≠0):
  cB prog 50 [.agg (fe d nb nc fb fc).toArray] w fun v N=>v=.tuple #[nS,vI (di d:Int)]∧N=[]:=by
 refine aA func50 F ntmps50 F ?_
 refine aQ (ax (ef [(vI d.vars),(vI d.start),(.slice nb d.next.length nc),(.slice fb d.aT.length fc)] (fun b1=>?_)))
 refine aS (aj (aG (eR 0 dm bY) (ae (bu dm fx) (ae (bF 0 eY) (ae (cL eY) ?_)))))
 have Et:=fun(w1:World) (hI:Inv w [oI b1 25 [(vI d.vars),(vI d.start),(.slice nb d.next.length nc),(.slice fb d.aT.length fc)]] w1)=>(haveI:=eP hI;KX w1 d nb fb nc fc vs (hI.Dz h) hb uv wM he d.next.length)
 refine TO.lc Uq (aO Et) ?_
 clear Et
 rintro v O' ⟨N,rfl,rfl,rfl⟩
 refine ae (bI _) (ae (bI _) (aS (aR ?_)))
 refine dr nS (vI (di d:Int)) results50 F F ?_
 exact⟨[],cd (bV _),F,F⟩
theorem KY (w:World) [dQ prog w] (d:c_) (nb fb:Option Addr) (nc fc:Nat) (vs:List Value) (h:jg w d nb vs fb) (hv:Valid d) (hn:d.next.length<10000):
  cB prog 50 [.agg (fe d nb nc fb fc).toArray] w fun v N=> ∃b c,v=.tuple #[.slice b d.next.length c,vI 0]∧N=[az b c 3 1 (cm (iL d d.next.length))]:=by
 refine aA func50 F ntmps50 F ?_
 refine aQ (ax (ef [(vI d.vars),(vI d.start),(.slice nb d.next.length nc),(.slice fb d.aT.length fc)] (fun b1=>?_)))
 refine aS (aj (aG (eR 0 dm bY) (ae (bu dm fx) (ae (bF 0 eY) (ae (cL eY) ?_)))))
 have Et:=fun(w1:World) (hI:Inv w [oI b1 25 [(vI d.vars),(vI d.start),(.slice nb d.next.length nc),(.slice fb d.aT.length fc)]] w1)=>(haveI:=eP hI;Pk w1 d nb fb nc fc vs (hI.Dz h) hv hn d.next.length (by omega))
 refine TO.lc Uq (aO Et) ?_
 clear Et
 rintro v O' ⟨N,rfl,b,c,rfl,rfl⟩
 refine ae (bI _) (ae (bI _) (aS (aR ?_)))
 refine dr (.slice b d.next.length c) (vI 0) results50 F F ?_
 exact⟨[az b c 3 1 (cm (iL d d.next.length))],(cH [0]),_,_,F,F⟩
theorem PE (base:World) [dQ prog base] (bx m:Nat) (ks:List (List UInt8)) (key:List UInt8) (hk:key∈ks) (hb:ks.length<1000000):
  cx prog base 124 [str key,.pointer (aD bx)] [eu bx (.cells #[.map (some m)] 160 (0,0)),dZ str (fun n:Nat=>Value.int .i64 (n:Int)) m ks.zipIdx] (fun v O'=>v=vN (ix key (add ks key))∧O'=[eu bx (.cells #[.map (some m)] 160 (0,0)),dZ str (fun n:Nat=>Value.int .i64 (n:Int)) m (add ks key).zipIdx]):=by
 refine aA func124 F ntmps124 F ?_
 refine aQ (aj (aG (bF 0 jo) (ay (cg (kF (a:=key) jo bM (ie.string wZ) F F (mG 1)) (v':=(.tuple #[vN (ix key ks),.bool true])) (by rw[l8];simp[hk])) (ay (bI _) (ae (bI _) (aS (aS (bq (aN (aX g_ ?_))))))))))
 refine bf (aE (a7 (aj (cM ?_))))
 refine aF (vN (ix key ks)) results124 F ?_
 have ha:add ks key=ks:=aB hk
 rw[ha];exact⟨F,F⟩
theorem La (base:World) [dQ prog base] (bx m:Nat) (ks:List (List UInt8)) (key:List UInt8) (hk:key∉ks) (hb:ks.length<1000000):
  cx prog base 124 [str key,.pointer (aD bx)] [eu bx (.cells #[.map (some m)] 160 (0,0)),dZ str (fun n:Nat=>Value.int .i64 (n:Int)) m ks.zipIdx] (fun v O'=>v=vN (ix key (add ks key))∧O'=[eu bx (.cells #[.map (some m)] 160 (0,0)),dZ str (fun n:Nat=>Value.int .i64 (n:Int)) m (add ks key).zipIdx]):=by
 refine aA func124 F ntmps124 F ?_
 refine aQ (aj (aG (bF 0 jo) (ay (cg (kF (a:=key) jo bM (ie.string wZ) F F (mG 1)) (v':=(.tuple #[vI 0,.bool false])) (by rw[l8];simp[hk])) (ay (bI _) (ae (bI _) (aS (aS (bq (aN (aX g_ ?_))))))))))
 refine bW ?_
 refine aG (bF 0 jo) (ae (cg (rv jo F (mG 1)) (v':=vN ks.length) (by simp)) (aj (a_ (ae (bF 0 jo) (de (ax (rz (a:=key) (v:=ks.length) 1 jo (ie.string wZ) F F F F (by rw[nX];exact hk) ?_)))))))
 refine bi (a7 (aj (cM ?_)))
 refine aF (vN ks.length) results124 F ?_
 have ha:add ks key=ks++[key]:=aq hk
 rw[ha]
 refine⟨by rw[gr hk];simp[ix],?_⟩
 rw[show(ks++[key]).zipIdx=ks.zipIdx++[(key,ks.length)] by rw[List.zipIdx_append];simp];rfl
theorem aca (base:World) [dQ prog base] (bx m:Nat) (ks:List (List UInt8)) (key:List UInt8) (hb:ks.length<1000000):
  cx prog base 124 [str key,.pointer (aD bx)] [eu bx (.cells #[.map (some m)] 160 (0,0)),dZ str (fun n:Nat=>Value.int .i64 (n:Int)) m ks.zipIdx] (fun v O'=>v=vN (ix key (add ks key))∧O'=[eu bx (.cells #[.map (some m)] 160 (0,0)),dZ str (fun n:Nat=>Value.int .i64 (n:Int)) m (add ks key).zipIdx]):=by
 by_cases hk:key∈ks
 ·exact PE base bx m ks key hk hb
 ·exact La base bx m ks key hk hb
theorem PF (base:World) [dQ prog base] (tr:List UInt8→Nat→List UInt8) (L B:Nat) (start:List UInt8) (fv:Value) (J:List (List UInt8)→List Lx.Item→Prop) (Good:List (List UInt8)→Prop) (hL:L≤64) (hB:B≤4096)
  (hn: ∀(ks:List (List UInt8)) (s x:Nat) (O:List Lx.Item),s<ks.length→x<L→Good ks→J ks O→fh prog base fv [vI (s:Int),.int .u8 (x:Int)] O (fun v O'=>v=str (tr (ks.getD s []) x)∧Good (add ks (tr (ks.getD s []) x))∧J (add ks (tr (ks.getD s []) x)) O'))
  (hg: ∀ks,Good ks→ks.length≤B) (O:List Lx.Item) (h0:Good [start]) (hJ0:J [start] O):
  cx prog base 86 [vI (L:Int),vI (B:Int),str start,fv] O (fun v O'=> ∃b c qs N O1,v=.tuple #[.slice b N c,.bool true]∧O'=az b c 56 1 (dO qs)::(cw 3 qs++O1)∧J (zg tr L start N) O1∧Good (zg tr L start N)∧(zg tr L start N).length=N∧rT tr L (zg tr L start N) N (nums qs)∧ ∀i,i<N→i<(zg tr L start i).length):=by
 refine aA func86 F ntmps86 F ?_
 refine aQ (aS (aj ?_))
 refine T.scope ?_ (fun _ _ _ h=>h)
 refine aQ (ax (mA str (fun n:Nat=>Value.int .i64 (n:Int)) (fun m1=>?_)))
 refine aN (ax (gA (a:=start) (v:=(0:Nat)) 0 jo (ie.string wZ) F F F F (by simp) ?_))
 refine aN (ax (b_ CL (fun b2=>?_)))
 refine ax (c8 [(.map (some m1))] 0 CL ?_)
 refine bi (aG (fI) (aj (br ?_)))
 refine T.label ?_
 refine br (aQ (aj (aK (T.fJ 56 1 ?_))))
 let eH:Lx.Item:=oI b2 160 [(.map (some m1))]
 let fR:Value:=(.pointer (aD b2))
 refine dU (fun(s:Nat) ρ O=> ∃(ks:List (List UInt8)) (qs:List Rec) (ob:Option Addr) (oc:Nat) (O1:List Lx.Item),O=([az ob oc 56 1 (dO qs),eH,dZ str (fun n:Nat=>Value.int .i64 (n:Int)) m1 ks.zipIdx]++(cw 3 qs++O1))∧zg tr L start s=ks∧Good ks∧J ks O1∧rT tr L ks s (nums qs)∧(∀i,i<s→i<(zg tr L start i).length)∧dh [(0,vI (L:Int)),(1,vI (B:Int)),(2,str start),(3,fv),(8,(.slice ob s oc)),(9,.bool false),(10,fR),(11,(.func (.func 124) #[] #[fR])),(12,vI (s:Int))] ρ) (fun s=>B-s) 0 ?_ ?_
 ·exact⟨[start],[],none,0,O,F,F,h0,hJ0,⟨F,by simp,fun i hi=>absurd hi (by omega),fun i hi=>absurd hi (by omega)⟩,fun i hi=>absurd hi (by omega),(.of F)⟩
 rintro s ρ O ⟨ks,qs,ob,oc,O1,rfl,pu,hG,hJ,hE,k7,hH⟩
 obtain⟨gv,rfl⟩:=hH.elim
 clear hH
 have hgl:=hg _ hG
 have Kb:qs.length=s:=by have:=hE.len;simpa using this
 refine br (bo (bF 1 jo) (ae (cg (rv jo F (mG 2)) (v':=vI (ks.length:Int)) (by rw[List.length_zipIdx])) (aX cV (aL F (fun hc=>?_) (fun hc=>?_)))))
 ·have tx:s<ks.length:=by omega
  refine aE (br (aK (a7 (ax (fg L da bM F F (by omega) (by omega) (fun b3=>?_))))))
  refine aS (bq (ay (cL da) (bH (aK ?_))))
  refine dU (fun(x:Nat) ρ O=> ∃(fK:List (List UInt8)) (ys:List Int) (O2:List Lx.Item),O=([bJ b3 L 3 1 (ints ys),az ob oc 56 1 (dO qs),eH,dZ str (fun n:Nat=>Value.int .i64 (n:Int)) m1 fK.zipIdx]++(cw 3 qs++O2))∧x≤L∧ys.length=L∧Good fK∧J fK O2∧fK=((List.range x).map (tr (ks.getD s []))).foldl add ks∧(∀i,i<x→ys[i]? =some ((ix (tr (ks.getD s []) i) fK:Nat):Int))∧dh [(0,vI (L:Int)),(1,vI (B:Int)),(2,str start),(3,fv),(8,(.slice ob s oc)),(9,.bool false),(10,fR),(11,(.func (.func 124) #[] #[fR])),(12,vI (s:Int)),(13,(.slice (aD b3) L L)),(28,vI (L:Int)),(29,vI (x:Int))] ρ) (fun x=>L-x) 0 ?_ ?_
  ·exact⟨ks,List.replicate L 0,O1,by simp,bj _,by simp,hG,hJ,F,fun i hi=>absurd hi (by omega),(.of F)⟩
  rintro x ρ O ⟨fK,ys,O2,rfl,hx,Ee,hG2,Yw,qU,AH,hH⟩
  obtain⟨gv,rfl⟩:=hH.elim
  clear hH
  have ake:=hg _ hG2
  have v_:ks<+:fK:=qU▸ig _ _
  have tU:fK.getD s []=ks.getD s []:=na v_ tx
  have Z3:=v_.length_le
  refine aG cV (dJ (aL F (fun hc=>?_) (fun hc=>?_)))
  ·have jx:x<L:=by omega
   refine aE (br (aK (a7 (aj (a7 (de (de (ay (gi eO il F (show IntKind.u8.wrap (x:Int)=(x:Int) by unfold IntKind.wrap;simp[IntKind.bits,IntKind.signed];omega)) ?_))))))))
   let gd:Lx.Item:=bJ b3 L 3 1 (ints ys)
   have acb:=fh.under (B:=[gd,az ob oc 56 1 (dO qs),eH,dZ str (fun n:Nat=>Value.int .i64 (n:Int)) m1 fK.zipIdx]++cw 3 qs) (O:=([gd,az ob oc 56 1 (dO qs),eH,dZ str (fun n:Nat=>Value.int .i64 (n:Int)) m1 fK.zipIdx]++(cw 3 qs++O2))) (hn fK s x O2 (by omega) jx hG2 Yw) (iq [])
   refine ax (fT acb F F ?_)
   clear acb
   rintro v O' ⟨O3,rfl,rfl,hG3,hJ3⟩
   refine dW (O':=([gd,az ob oc 56 1 (dO qs),eH,dZ str (fun n:Nat=>Value.int .i64 (n:Int)) m1 fK.zipIdx]++(cw 3 qs++O3))) (iq []) ?_
   rw[tU]at hG3 hJ3⊢
   have pI:=cZ (first:=[]) (args:=[str (tr (ks.getD s []) x)]) (gU:=[fR]) W6 (cx.under (B:=[gd,az ob oc 56 1 (dO qs)]++(cw 3 qs++O3)) (O:=([gd,az ob oc 56 1 (dO qs),eH,dZ str (fun n:Nat=>Value.int .i64 (n:Int)) m1 fK.zipIdx]++(cw 3 qs++O3))) (aca base b2 m1 fK (tr (ks.getD s []) x) (by have:=hg _ hG2;omega)) (lI [2,2,0,0] [gd,az ob oc 56 1 (dO qs),eH,dZ str (fun n:Nat=>Value.int .i64 (n:Int)) m1 fK.zipIdx] (cw 3 qs++O3) F F))
   refine ax (fT pI F F ?_)
   clear pI
   rintro v O' ⟨A1,rfl,rfl,rfl⟩
   refine dW (O':=([gd,az ob oc 56 1 (dO qs),eH,dZ str (fun n:Nat=>Value.int .i64 (n:Int)) m1 ((add fK (tr (ks.getD s []) x)).zipIdx)]++(cw 3 qs++O3))) (lI [2,2,0,0] [eH,dZ str (fun n:Nat=>Value.int .i64 (n:Int)) m1 ((add fK (tr (ks.getD s []) x)).zipIdx),gd,az ob oc 56 1 (dO qs)] (cw 3 qs++O3) F F) ?_
   refine ae (dB x da bM F F (eA 0)) (ax (n7 (v:=vN (ix (tr (ks.getD s []) x) (add fK (tr (ks.getD s []) x)))) (vs:=[(vN (ix (tr (ks.getD s []) x) (add fK (tr (ks.getD s []) x))))]) (cs:=ints ys) x 0 bM F F F F F (by simp) F (by first|(simp;omega)|(simp_all;omega)) ?_))
   refine dW (O':=([bJ b3 L 3 1 (ints (ys.set x ((ix (tr (ks.getD s []) x) (add fK (tr (ks.getD s []) x)):Nat):Int))),az ob oc 56 1 (dO qs),eH,dZ str (fun n:Nat=>Value.int .i64 (n:Int)) m1 ((add fK (tr (ks.getD s []) x)).zipIdx)]++(cw 3 qs++O3))) (by rw[show fC (ints ys) x [(vN (ix (tr (ks.getD s []) x) (add fK (tr (ks.getD s []) x))))]=ints (ys.set x ((ix (tr (ks.getD s []) x) (add fK (tr (ks.getD s []) x)):Nat):Int))from by simp[fC]];exact cd (aP _)) ?_
   refine bi (aG (bF 2 jo) (ae (cg (rv jo F (mG 3)) (v':=vI ((add fK (tr (ks.getD s []) x)).length:Int)) (by rw[List.length_zipIdx])) (aN (aX gT (aL F (fun hc=>?_) (fun hc=>?_))))))
   ·exact absurd hc (by have:=hg _ hG3;omega)
   have AY: ¬(add fK (tr (ks.getD s []) x)).length>B:=by omega
   refine aE (a_ (ae (lF F F (by omega)) (bH ?_)))
   have GG: ∀y,y<x→tr (ks.getD s []) y∈fK:=fun y hy=>by rw[qU,et];exact .inr (List.mem_map_of_mem (List.mem_range.2 hy))
   refine⟨x+1,by omega,add fK (tr (ks.getD s []) x),ys.set x ((ix (tr (ks.getD s []) x) (add fK (tr (ks.getD s []) x)):Nat):Int),O3,F,by omega,by simp[Ee],hG3,hJ3,by rw[jK,←qU],fun i hi=>?_,(.of F)⟩
   by_cases e:i=x
   ·subst e;rw[List.getElem?_set_self (by omega)]
   ·rw[List.getElem?_set_ne (fun h=>e h.symm),AH i (by omega),iM (kH _ _) (GG i (by omega))]
  have H2: ¬x<L:=by omega
  refine cD ?_
  refine a_ (de (ax (dL (v:=(.slice (aD b3) L L)) eY eo F F F (fun b4=>?_))))
  refine ax (dE 2 eY eY eo F F F F (by simp[Kb]) (by decide) (Src.row (j:=0) F (by simp)) (by simp[fS]) (by omega) (by decide) (by decide) (fun b5 c6=>?_))
  refine aj ?_
  refine dq (O':=[az b5 c6 56 1 (dO (qs++[⟨(aD b3),L,ys⟩])),eH,dZ str (fun n:Nat=>Value.int .i64 (n:Int)) m1 fK.zipIdx]++(cw 3 (qs++[⟨(aD b3),L,ys⟩])++O2)) (by
   rw[show dO (qs++[⟨(aD b3),L,ys⟩])=(dO qs)++[(.slice (aD b3) L L)] by simp[Rec.val,Ee]]
   exact Sub.xT [bJ b4 1 56 1 [(.slice (aD b3) L L)]] (by intro a;simp only[List.set_cons_zero,List.set_cons_succ,cw,bm,cJ,gM,Rec.qW,qk,pt,HT,vI,nS,bJ,eJ,aD,cN,dM,aV,dp]<;>omega)) ?_
  refine a_ (ay (lF F F (by omega)) (aj ?_))
  have Nn:x=L:=by omega
  have GG: ∀y,y<L→tr (ks.getD s []) y∈fK:=fun y hy=>by rw[qU,et];exact .inr (List.mem_map_of_mem (List.mem_range.2 (by omega)))
  have VX:ys=l9 tr L fK s:=by
   apply List.ext_getElem?
   intro i
   by_cases hi:i<L
   ·rw[AH i (by omega)];simp only[l9,tU];simp[hi]
   ·rw[cn (by omega),cn (by simp[l9];omega)]
  have Vx:rT tr L fK (s+1) (nums (qs++[⟨(aD b3),L,ys⟩])):=by
   have:=hE.snoc v_ tx VX (by rw[tU];exact GG)
   simpa[nums]using this
  have afv: ∀i,i<s+1→i<(zg tr L start i).length:=fun i hi=>by
   by_cases e:i=s
   ·subst e;rw[pu];exact tx
   ·exact k7 i (by omega)
  exact⟨s+1,by omega,fK,qs++[⟨(aD b3),L,ys⟩],b5,c6,O2,F,by rw[zg,pu,qU,Nn],hG2,Yw,Vx,afv,(.of F)⟩
 have yW: ¬s<ks.length:=by omega
 refine cD ?_
 refine bo (bF 1 jo) (ae (cg (rv jo F (mG 2)) (v':=vI (ks.length:Int)) (by rw[List.length_zipIdx])) (ay (bn tg (by have:=hg _ hG;omega)) (aS (aR ?_))))
 refine dr (.slice ob s oc) (.bool true) results86 F F ?_
 have hN:ks.length=s:=by have:=hE.le;omega
 exact⟨_,(lI [0] [az ob oc 56 1 (dO qs),eH,dZ str (fun n:Nat=>Value.int .i64 (n:Int)) m1 ks.zipIdx] (cw 3 qs++O1) F F),ob,oc,qs,s,O1,F,F,by rw[pu];exact hJ,by rw[pu];exact hG,by rw[pu];exact hN,by rw[pu];exact hE,k7⟩
theorem acd (base:World) [dQ prog base] (d:c_) (nb fb:Option Addr) (nc fc:Nat) (vs:List Value) (h:jg base d nb vs fb) (hv:Valid d) (hn:d.next.length<10000) (b1 b2 b3:Nat) (os:List Nat) (sn:List Bool) (ob sb:Option Addr) (oc sc Qs s x:Nat) (hs:s<os.length) (hx:x<2^d.vars.toNat) (KW: ∀o∈os,o<d.next.length) (my:os.Nodup) (Qj:sn.length=d.next.length) (rQ: ∀t,t<d.next.length→sn[t]? =some (decide (t∈os))):
  cx prog base 84 ([vI (s:Int),.int .u8 (x:Int)]++[.pointer (aD b1),.pointer (aD b2),.pointer (aD b3)])
   [oI b1 25 [(vI d.vars),(vI d.start),(.slice nb d.next.length nc),(.slice fb d.aT.length fc)],oI b2 56 [(.slice ob os.length oc)],az ob oc 3 1 (cm os),oI b3 23 [(.slice sb d.next.length sc)],az sb Qs 4 1 (cO sn)]
   (fun v O'=>v=str (Lib.decDigits (fm d os[s] x))∧ ∃ob' oc' sn',sn'.length=d.next.length∧(∀t,t<d.next.length→sn'[t]? =some (decide (t∈add os (fm d os[s] x))))∧O'=[oI b1 25 [(vI d.vars),(vI d.start),(.slice nb d.next.length nc),(.slice fb d.aT.length fc)],oI b2 56 [(.slice ob' ((add os (fm d os[s] x)).length) oc')],az ob' oc' 3 1 (cm (add os (fm d os[s] x))),oI b3 23 [(.slice sb d.next.length sc)],az sb Qs 4 1 (cO sn')]):=by
 refine aA func84 F ntmps84 F ?_
 obtain⟨o,Qr⟩: ∃o,os[s]=o:=⟨_,F⟩
 have afw:os[s]? =some o:=by rw[ak hs,Qr]
 have ho:o<d.next.length:=Qr▸KW _ (av hs)
 obtain⟨t,ht⟩: ∃t,fm d o x=t:=⟨_,F⟩
 obtain⟨htn,_,hxr,hdx⟩:=hv.iw ho hx
 rw[ht]at htn hdx
 rw[Qr,ht]
 have Qe:=h.rows.1
 have hw:=hv.width
 obtain⟨vb,vc,g1,s1⟩:=h.rows.get ho
 have hxt:(ints d.next[o])[x]? =some (vN t):=by rw[gL hxr,hdx]
 have Wq:=fA my KW
 have Az:=rQ t htn
 have Ic:t<sn.length:=by omega
 refine aQ (aj (br ?_))
 refine fW [(0,0),(1,0),(2,0),(3,0),(4,0),(5,0),(6,0),(7,0),(8,0),(9,0),(10,0),(11,0)] ?_
 refine ap F (bu dm fx) (ap F (bF 0 eY) (ap F (bF 1 da) (ap F aw ?_)))
 refine ap F (dB s da bM F F (eA 2) hs (by rw[ai];exact hs)) (ap F (iN eO F F (eA 2) (show(cm os)[s]? =some (vN o) by rw[bl,afw];rfl)) (ap F (dB o eY eo F F (a6 h.outer) ho) (ap F (dD da F F h.outer g1) ?_)))
 refine ap F aw (ap F (dB x da bM F F (a6 s1) hxr (by rw[ai];exact hxr)) (ap F (dD eO F F s1 hxt) (ap F cz ?_)))
 refine cy ?_
 refine br (aQ ?_)
 refine ae (bF 3 eS) (ay (dB t eS gq F F (eA 4) htn (by rw[ai];exact Ic)) (ae (iN uT F F (eA 4) (show(cO sn)[t]? =some (.bool (decide (t∈os))) by rw[bl,Az];rfl)) ?_))
 refine aX g_ (aL (p:=t∉os) (am Value.bool (by simp)) (fun hc=>?_) (fun hc=>?_))
 ·let iB:Lx.Item:=oI b1 25 [(vI d.vars),(vI d.start),(.slice nb d.next.length nc),(.slice fb d.aT.length fc)]
  refine tN [iB,oI b3 23 [(.slice sb d.next.length sc)],az sb Qs 4 1 (cO sn)] [oI b2 56 [(.slice ob os.length oc)]] [(0,0),(1,0),(2,3),(3,0),(4,1),(5,1),(6,4),(7,0),(8,2)] mixed (by kernel_rfl) (cH [0,2,2]) (cH [1]) (fun _ _ _ _ h=>h) ?_
  refine ap F (bF 1 eS) (ap F aw ?_)
  refine eg F (bF 0 da) ?_
  refine ap F aw ?_
  refine tM F F (dL (v:=vN t) da bM F F F (fun z1=>⟨cH [1,3,3],cH [2],?_⟩))
  refine tM F F (dE 3 da da bM F F F F (by simp) (by decide) (Src.row (j:=0) F (by simp)) (by simp[fS]) (by omega) (by decide) (by decide) (fun z2 wm=>⟨cH [1,3,3],cH [2],?_⟩))
  refine yD F F (c8 [(.slice z2 (os.length+1) wm)] 2 eo ⟨cH [1,3,3],?_⟩ F F F F)
  refine ap F (dB t eS gq F F (eA 2) htn (by rw[ai];exact Ic)) ?_
  refine cA F F (n7 (v:=.bool true) (vs:=[(.bool true)]) (cs:=cO sn) t 5 gq F F F F F (by simp) F (by first|(simp;omega)|(simp_all;omega)) ?_)
  let gn:List Lx.Item:=[bJ z1 1 3 1 [vN t],oI b1 25 [(vI d.vars),(vI d.start),(.slice nb d.next.length nc),(.slice fb d.aT.length fc)],oI b2 56 [(.slice z2 (os.length+1) wm)],az z2 wm 3 1 ((cm os)++[vN t]),oI b3 23 [(.slice sb d.next.length sc)],az sb Qs 4 1 (cO (sn.set t true))]
  refine fj (O':=gn) (by rw[show fC (cO sn) t [(.bool true)]=cO (sn.set t true)from by simp[fC]];exact cd (aP _)) ?_
  refine cy ?_
  refine a7 ?_
  have y7:=fun(w1:World) (hI:Inv base gn w1)=>(haveI:=eP hI;PG w1 t (by omega))
  refine TO.lc OG (aO y7) ?_
  clear y7
  rintro v O' ⟨N,rfl,rfl,rfl⟩
  refine aR ?_
  refine aF (str (Lib.decDigits t)) results84 F ?_
  have ha:add os t=os++[t]:=aq hc
  refine⟨[iB,oI b2 56 [(.slice z2 (os.length+1) wm)],az z2 wm 3 1 ((cm os)++[vN t]),oI b3 23 [(.slice sb d.next.length sc)],az sb Qs 4 1 (cO (sn.set t true))],(cH [1,1,1,1,1]),F,z2,wm,sn.set t true,by simp[Qj],fun t2 Yj=>?_,?_⟩
  ·rw[ha]
   by_cases e:t2=t
   ·subst e;rw[List.getElem?_set_self Ic];simp
   ·rw[List.getElem?_set_ne (fun h=>e h.symm),rQ t2 Yj];simp[e]
  ·rw[ha,aJ,show cm (os++[t])=cm os++[vN t]from bm];rfl
 refine aE (a7 ?_)
 let kp:List Lx.Item:=[oI b1 25 [(vI d.vars),(vI d.start),(.slice nb d.next.length nc),(.slice fb d.aT.length fc)],oI b2 56 [(.slice ob os.length oc)],az ob oc 3 1 (cm os),oI b3 23 [(.slice sb d.next.length sc)],az sb Qs 4 1 (cO sn)]
 have y7:=fun(w1:World) (hI:Inv base kp w1)=>(haveI:=eP hI;PG w1 t (by omega))
 refine TO.lc OG (aO y7) ?_
 clear y7
 rintro v O' ⟨N,rfl,rfl,rfl⟩
 refine aR ?_
 refine aF (str (Lib.decDigits t)) results84 F ?_
 have ha:add os t=os:=aB (Classical.not_not.1 hc)
 refine⟨kp,(cH [0,0,0,0,0]),F,ob,oc,sn,Qj,fun t2 Yj=>?_,?_⟩
 ·rw[ha];exact rQ t2 Yj
 ·rw[ha]
def XJ (d:c_) (nb fb:Option Addr) (nc fc b1 bB bC bD:Nat) (ks:List (List UInt8)) (O:List Lx.Item):Prop:=
 ∃(os:List Nat) (sn:List Bool) (ob:Option Addr) (oc:Nat),ks=os.map Lib.decDigits∧O=[eu b1 (.cells (List.toArray [(vI d.vars),(vI d.start),(.slice nb d.next.length nc),(.slice fb d.aT.length fc)]) 25 (0,0)),eu bC (.cells (List.toArray [(.slice ob os.length oc)]) 56 (0,0)),az ob oc 3 1 (cm os),eu bD (.cells (List.toArray [(.slice (aD bB) d.next.length d.next.length)]) 23 (0,0)),bJ bB d.next.length 4 1 (cO sn)]∧os.Nodup∧(∀o∈os,o<d.next.length)∧sn.length=d.next.length∧(∀t,t<d.next.length→sn[t]? =some (decide (t∈os)))
set_option maxRecDepth 20000 in
theorem acf (base:World) [dQ prog base] (d:c_) (nb fb:Option Addr) (nc fc:Nat) (vs:List Value) (h:jg base d nb vs fb) (hv:Valid d) (hn:d.next.length<10000) (b1 bB bC bD:Nat) (ks:List (List UInt8)) (s x:Nat) (O:List Lx.Item) (hs:s<ks.length) (hx:x<2^d.vars.toNat) (hJ:XJ d nb fb nc fc b1 bB bC bD ks O):
  fh prog base (.func (.func 84) #[] #[.pointer (aD b1),.pointer (aD bC),.pointer (aD bD)]) [vI (s:Int),.int .u8 (x:Int)] O
   (fun v O'=>v=str (F4 d (ks.getD s []) x)∧(add ks (F4 d (ks.getD s []) x)).length≤d.next.length∧XJ d nb fb nc fc b1 bB bC bD (add ks (F4 d (ks.getD s []) x)) O'):=by
 obtain⟨os,sn,ob,oc,rfl,rfl,my,KW,Qj,rQ⟩:=hJ
 have Va:s<os.length:=by simpa using hs
 have e:(os.map Lib.decDigits).getD s []=Lib.decDigits os[s]:=by simp[Va]
 have e2:F4 d ((os.map Lib.decDigits).getD s []) x=Lib.decDigits (fm d os[s] x):=by rw[e,F4,wH]
 have hT:=(hv.iw (KW _ (av Va)) hx).1
 have acg: ∀o∈add os (fm d os[s] x),o<d.next.length:=fun o ho=>by
  rcases sV.1 ho with ho|ho
  ·exact KW o ho
  ·rw[ho];exact hT
 refine fh.mono (cZ (first:=[]) (gU:=[.pointer (aD b1),.pointer (aD bC),.pointer (aD bD)]) aby (acd base d nb fb nc fc vs h hv hn b1 bC bD os sn ob (aD bB) oc d.next.length d.next.length s x Va hx KW my Qj rQ)) ?_
 rintro v O' ⟨rfl,ob',oc',sn',h1,h2,rfl⟩
 rw[e2,←Jl qo]
 refine⟨F,?_,add os (fm d os[s] x),sn',ob',oc',F,F,nP my,acg,h1,h2⟩
 rw[ai];exact fA (nP my) acg
end Go.Proofs.YtgdbfideeeegmaaGreatDoor


/- Contracts. -/
import Derived.Test.YtjcophmajgcehaaGreatDoorA4
set_option linter.all false
set_option maxHeartbeats 8000000
set_option maxRecDepth 20000
namespace Go.Proofs.YtjcophmajgcehaaGreatDoor
open Go.Lx Go.RowKit _root_.Go.Proofs.Tryz
theorem acm (base:World) [eT prog base] (xb c:Nat) (b:Option Addr) (l:List Int) (hx:Sl base (aD xb) [.slice b l.length c]) (hb:Sl base b (ints l)) (tJ:l.length<1000000) (yv:Value) (J:Nat→List Lx.Item→Prop)
  (hy: ∀(i:Nat) (q:Int) (O:List Lx.Item),l[i]? =some q→J i O→dS prog base yv [vI q] O (fun v O'=>v=.bool true∧J (i+1) O'))
  (O:List Lx.Item) (h0:J 0 O):
  cZ prog base 113 [yv,.pointer (aD xb)] O (fun _ O'=>J l.length O'):=by
 refine aF func113 F ntmps113 F ?_
 refine aB (eA ew F F hx (show([Value.slice b l.length c]:List Value)[0]? =some _ from F)) (ad (bV ew) (aS (aw ?_)))
 refine cX (fun(i:Nat) ρ O=> ∃(O1:List Lx.Item),O=O1∧i≤l.length∧J i O1∧cL [(0,yv),(1,(G4 xb 0)),(5,(.slice b l.length c)),(6,vI (l.length:Int)),(7,vN i)] ρ) (fun i=>l.length-i) 0 ?_ ?_
 ·exact⟨O,F,aG _,h0,(.of F)⟩
 rintro i ρ O ⟨O1,hOe,hi,hJ,hH⟩
 obtain⟨fy,rfl⟩:=hH.elim
 clear hH
 have ahg:=hOe.symm
 subst ahg
 refine aB cH (TO.ns (aH F (fun hc=>?_) (fun hc=>?_)))
 ·have nM:i<l.length:=by omega
  have gf:i<l.length:=by omega
  obtain⟨q,hiq⟩: ∃q,l[i]? =some q:=⟨_,ah gf⟩
  have XT:(ints l)[i]? =some (vI q):=by rw[bc,hiq];rfl
  refine aE (ba (aw (aB (b8 i ew bt F F (bS hb) gf (by rw[ag];exact gf)) (ad (eA nw F F hb XT) (ai (bI (aQ ?_)))))))
  have N0:=(hy i q O1 hiq hJ)
  refine au (et N0 F F ?_)
  clear N0
  rintro vr O' ⟨rfl,Ef⟩
  refine bF gM (cK (aE (aJ (ad (bK (b:=1) i F F (by omega)) (aS ?_)))))
  exact⟨i+1,by omega,O',F,by omega,Ef,(.of F)⟩
 have Mz: ¬i<l.length:=by omega
 refine bA ?_
 refine pk.zero results113 ?_
 have r_:i=l.length:=by omega
 rw[←r_];exact hJ
theorem Sr (w:World) [eT prog w] (xb c:Nat) (b:Option Addr) (l:List Int) (hx:Sl w (aD xb) [.slice b l.length c]) (hb:Sl w b (ints l)) (tJ:l.length<1000000):
  cR prog 127 [nS,(.func (.func 113) #[] #[(.pointer (aD xb))])] w fun v N=> ∃lb lc,v=.slice lb l.length lc∧N=[ak lb lc 3 1 (ints l)]:=by
 refine aF func127 F ntmps127 F ?_
 refine a8 (au (e5 [nS] (fun z1=>?_)))
 refine bh (bJ (aS (aw (T.dH 3 1 ?_))))
 refine cV (O':=[oI z1 22 [nS],ak none 0 3 1 []]) (by exact Sub.dm [ak none 0 3 1 []] _ (.k .z)) ?_
 refine T.rangeFunc (first:=[]) (fU:=[(G4 xb 0)]) F N1 (fun yl yq Rh=>?_)
 refine cZ.mono (cZ.sub (O':=(eL yl (lp yq none)::[oI z1 22 [nS],ak none 0 3 1 []])) (aR [0,0,0]) (acm w xb c b l hx hb tJ (.func (.yield yl) #[] #[]) (fun i9 O=> ∃(lb:Option Addr) (lc:Nat),O=eL yl (lp yq none)::[oI z1 22 [(.slice lb i9 lc)],ak lb lc 3 1 (ints (l.take i9))]∧i9≤l.length) ?_ _ ?_)) ?_
 ·intro i9 q9 O hq hJ
  obtain⟨lb,lc,rfl,vM⟩:=hJ
  refine dS.yield Rh F F ?_
  have gf:=(List.getElem?_eq_some_iff.1 hq).1
  have ZA:(ints (l.take i9))++[Value.int .i64 q9]=ints (l.take (i9+1)):=by rw[List.take_add_one,hq];simp
  refine aJ (ai (aw (aJ (ad (bp 0 ew) (aQ (au (dv (v:=vI q9) ew bt F F F (fun z2=>?_))))))))
  refine au (dp 2 ew ew bt F F F F (by rw[ag,bC];omega) (by decide) (Src.row (j:=0) F (by simp)) (by simp[fL]) (by omega) (by decide) (by decide) (fun z3 Cn=>?_))
  refine au (cE [(.slice z3 (i9+1) Cn)] 1 cf ?_)
  refine cY (O':=[oI z1 22 [(.slice z3 (i9+1) Cn)],ak z3 Cn 3 1 ((ints (l.take i9))++[vI q9])]) (by exact Sub.d (.k (.k .z))) ?_
  refine TO.nl ?_
  exact⟨F,z3,Cn,by rw[ZA],gf⟩
 ·exact⟨none,0,F,aG _⟩
 rintro v O' ⟨lb,lc,rfl,_⟩
 rw[aN (aV _)]
 refine⟨none,_,F,?_⟩
 refine aB (bp 0 ew) (bm ?_)
 refine aM (.slice lb l.length lc) results127 F ?_
 exact⟨[ak lb lc 3 1 (ints l)],(by exact Sub.d (.k .z)),_,_,F,F⟩
theorem N3 (w:World) [eT prog w] (xb c:Nat) (b:Option Addr) (l:List Int) (hx:Sl w (aD xb) [.slice b l.length c]) (hb:Sl w b (ints l)) (tJ:l.length<1000000):
  cR prog 111 [(.func (.func 113) #[] #[(.pointer (aD xb))])] w fun v N=> ∃lb lc,v=.slice lb l.length lc∧N=[ak lb lc 3 1 (ints l)]:=by
 refine aF func111 F ntmps111 F ?_
 refine a8 (ai (bI ?_))
 have hk4:=fun(w1:World) (hI:Inv w [] w1)=>(haveI:=j6 hI;Sr w1 xb c b l (hI.sl hx) (hI.sl hb) tJ)
 refine TO.lc XU (aK hk4) ?_
 clear hk4
 rintro vr O' ⟨N,rfl,lb,lc,rfl,rfl⟩
 refine ai (cF ?_)
 refine aM (.slice lb l.length lc) results111 F ?_
 exact⟨_,_,F,F⟩
theorem Ss (w:World) [eT prog w] (xb c:Nat) (b:Option Addr) (l:List Int) (hx:Sl w (aD xb) [.slice b l.length c]) (hb:Sl w b (ints l)) (tJ:l.length<1000000):
  cR prog 79 [(.func (.func 113) #[] #[(.pointer (aD xb))])] w fun v N=> ∃lb lc,v=.slice lb l.length lc∧N=[ak lb lc 3 1 (ints (jW l))]:=by
 refine aF func79 F ntmps79 F ?_
 refine a8 (ai (bI ?_))
 have hk5:=fun(w1:World) (hI:Inv w [] w1)=>(haveI:=j6 hI;N3 w1 xb c b l (hI.sl hx) (hI.sl hb) tJ)
 refine TO.lc XV (aK hk5) ?_
 clear hk5
 rintro vr O' ⟨N,rfl,lb,lc,rfl,rfl⟩
 refine ai (bI (TO.lc XW (jE [0] (aco w lb lc l (by omega))) ?_))
 rintro vr O' ⟨A2,rfl,rfl,rfl⟩
 refine TO.nl (bI (ai (cF ?_)))
 refine aM (.slice lb l.length lc) results79 F ?_
 exact⟨_,_,F,F⟩
theorem KP (base:World) [eT prog base] (pb:Option Addr) (pc:Nat) (ps:List Nat) (hl:ps.length≤100000):
  cZ prog base 29 [.slice pb ps.length pc] [ak pb pc 3 1 (bn ps)] (fun _ O'=>O'=[ak pb pc 3 1 (bn (ps.map (sz (jv ps))))]):=by
 refine aF func29 F ntmps29 F ?_
 have WA:(ps.map fun y:Nat=>(y:Int)).length=ps.length:=ag _
 have amn:=St ps
 have hpa:=Jf ps
 have nN:(Lib.compact (jW (ps.map fun y:Nat=>(y:Int)))).length=(jv ps).length:=by rw[Cy,ag]
 refine bI ?_
 have acp:=fun(w1:World) (hI:Inv base [ak pb pc 3 1 (bn ps)] w1)=>(haveI:=j6 hI;(show cR prog 80 [.slice pb ps.length pc] w1 (fun v N=> ∃xb:Nat,v=(.func (.func 113) #[] #[(.pointer (aD xb))])∧N=[oI xb 22 [(.slice pb ps.length pc)]])from by have h9:=Vg w1 pb pc (ps.map fun y:Nat=>(y:Int));rw[WA]at h9;exact h9))
 refine TO.lc Vh (aK acp) ?_
 clear acp
 rintro vr O' ⟨N,rfl,xb,rfl,rfl⟩
 let dC:Lx.Item:=oI xb 22 [(.slice pb ps.length pc)]
 have N4:=fun(w1:World) (hI:Inv base [dC,ak pb pc 3 1 (bn ps)] w1)=>(haveI:=j6 hI;(show cR prog 79 [(.func (.func 113) #[] #[(.pointer (aD xb))])] w1 (fun v N=> ∃lb lc,v=.slice lb ps.length lc∧N=[ak lb lc 3 1 (ints (jW (ps.map fun y:Nat=>(y:Int))))])from by
  have h9:=Ss w1 xb pc pb (ps.map fun y:Nat=>(y:Int)) (by rw[WA];exact hI.acq (mG 0)) (by rw[vq];exact hI.ga (mG 1)) (by rw[WA];omega)
  rw[WA]at h9;exact h9))
 refine TO.lc acr (aK N4) ?_
 clear N4
 rintro vr O' ⟨N,rfl,lb,lc,rfl,rfl⟩
 have acs:=cZ.under (A:=[ak lb lc 3 1 (ints (jW (ps.map fun y:Nat=>(y:Int))))]) (B:=[dC,ak pb pc 3 1 (bn ps)]) (O:=[ak lb lc 3 1 (ints (jW (ps.map fun y:Nat=>(y:Int)))),dC,ak pb pc 3 1 (bn ps)]) (by
  have h9:=N5 base lb lc (jW (ps.map fun y:Nat=>(y:Int))) (by rw[List.length_mergeSort,WA];omega)
  rw[List.length_mergeSort,WA]at h9;exact h9) (by exact Sub.rf)
 refine TO.lc acu acs ?_
 clear acs
 rintro vr O' ⟨A2,rfl,rfl,rfl⟩
 refine cY (O':=[ak lb lc 3 1 (bn (jv ps)),ak pb pc 3 1 (bn ps)]) (by rw[←vq (jv ps),←Cy];exact Sub.k (.d .rf)) ?_
 rw[show(Lib.compact (jW (ps.map fun y:Nat=>(y:Int)))).length=(jv ps).length from nN]
 refine ai (a8 (au (io fB (fun n:Nat=>Value.int .i64 (n:Int)) (fun Q1=>?_))))
 refine ai (a8 (bh (bJ (az (bV ew) (aS (aw ?_))))))
 let dM:Value:=(.slice lb ((jv ps).length) lc)
 refine cS (fun(i:Nat) ρ O=>O=[cM fB (fun n:Nat=>Value.int .i64 (n:Int)) Q1 (GQ ((jv ps).take i)),ak lb lc 3 1 (bn (jv ps)),ak pb pc 3 1 (bn ps)]∧i≤(jv ps).length∧cL [(0,(.slice pb ps.length pc)),(2,dM),(3,(.map (some Q1))),(4,vN (uh ((jv ps).take i))),(14,dM),(15,vI ((jv ps).length:Int)),(16,vN i)] ρ) (fun i=>(jv ps).length-i) 0 ?_ ?_
 ·exact⟨F,aG _,(.of F)⟩
 rintro i ρ O ⟨rfl,hi,hH⟩
 obtain⟨fy,rfl⟩:=hH.elim
 clear hH
 have XX:=XY ((jv ps).take i)
 rw[bC]at XX
 refine aB cH (TO.ns (aH F (fun hc=>?_) (fun hc=>?_)))
 ·have Vi:i<(jv ps).length:=by omega
  have gf:i<(jv ps).length:=by omega
  have UA:=N6 gf
  refine aE (ba (aw (aB (b8 i ew bt F F (bU 1) gf (by rw[ag];exact gf)) (ad (dR nw F F (bU 1) (dK gf)) (bh (bJ (az (kR (a:=(uh ((jv ps).take i))) (b:=2) F F (by omega)) (az (kR (a:=((jv ps)[i])) (b:=2) F F (by omega)) (bF gB (aH F (fun hc=>?_) (fun hc=>?_)))))))))))
  ·have DV:(uh ((jv ps).take i))%2≠((jv ps)[i])%2:=by omega
   have N7:uh ((jv ps).take i)+1=uh ((jv ps).take (i+1)):=by rw[UA,aA (by omega)]
   refine aJ (az (bK (b:=1) ((uh ((jv ps).take i))) F F (by omega)) (ai ?_))
   
   refine aJ (aQ (az (bH aC (v':=vN (uh ((jv ps).take (i+1)))) (av (fun z:Nat=>Value.int .i64 (z:Int)) N7)) (au (oY (a:=(((jv ps)[i]:Nat):Int)) (v:=uh ((jv ps).take (i+1))) 0 E2 (fZ.int nw) F F F F (Jg hpa gf) ?_))))
   refine TO.nl (aJ (ad (bK (b:=1) i F F (by omega)) (aS ?_)))
   exact⟨i+1,by omega,[cM fB (fun n:Nat=>Value.int .i64 (n:Int)) Q1 ((GQ ((jv ps).take i))++[((((jv ps)[i]:Nat):Int),uh ((jv ps).take (i+1)))]),ak lb lc 3 1 (bn (jv ps)),ak pb pc 3 1 (bn ps)],(by exact Sub.rf),by rw[E3 gf],by omega,⟨F,F,F,(av (fun z:Nat=>Value.int .i64 (z:Int)) N7),F,F,F,trivial⟩⟩
  have DX: ¬(uh ((jv ps).take i))%2≠((jv ps)[i])%2:=by omega
  have N7:uh ((jv ps).take i)=uh ((jv ps).take (i+1)):=by rw[UA,ar (by omega)]
  refine aE ?_
  
  refine aJ (aQ (az (bH aC (v':=vN (uh ((jv ps).take (i+1)))) (av (fun z:Nat=>Value.int .i64 (z:Int)) N7)) (au (oY (a:=(((jv ps)[i]:Nat):Int)) (v:=uh ((jv ps).take (i+1))) 0 E2 (fZ.int nw) F F F F (Jg hpa gf) ?_))))
  refine TO.nl (aJ (ad (bK (b:=1) i F F (by omega)) (aS ?_)))
  exact⟨i+1,by omega,[cM fB (fun n:Nat=>Value.int .i64 (n:Int)) Q1 ((GQ ((jv ps).take i))++[((((jv ps)[i]:Nat):Int),uh ((jv ps).take (i+1)))]),ak lb lc 3 1 (bn (jv ps)),ak pb pc 3 1 (bn ps)],(by exact Sub.rf),by rw[E3 gf],by omega,⟨F,F,F,(av (fun z:Nat=>Value.int .i64 (z:Int)) N7),F,F,F,trivial⟩⟩
 have Vj: ¬i<(jv ps).length:=by omega
 refine bA ?_
 refine bP (bV ew) (aS (aw ?_))
 have r_:(jv ps).take i=jv ps:=aN (by omega)
 refine cV (O':=[ak pb pc 3 1 (bn ps),cM fB (fun n:Nat=>Value.int .i64 (n:Int)) Q1 (GQ (jv ps))]) (by rw[r_];exact Sub.dm [cM fB (fun n:Nat=>Value.int .i64 (n:Int)) Q1 (GQ (jv ps)),ak lb lc 3 1 (bn (jv ps))] _ (.k .z)) ?_
 refine cS (fun(j:Nat) ρ O=>O=[ak pb pc 3 1 (bn (HL ps j)),cM fB (fun n:Nat=>Value.int .i64 (n:Int)) Q1 (GQ (jv ps))]∧j≤ps.length∧cL [(0,(.slice pb ps.length pc)),(2,dM),(3,(.map (some Q1))),(4,vN (uh ((jv ps).take i))),(31,(.slice pb ps.length pc)),(32,vI (ps.length:Int)),(33,vN j)] ρ) (fun j=>ps.length-j) 0 ?_ ?_
 ·exact⟨F,aG _,(.of F)⟩
 rintro j ρ O ⟨rfl,hj,hH⟩
 obtain⟨fy,rfl⟩:=hH.elim
 clear hH
 refine aB cH (TO.ns (aH F (fun hc=>?_) (fun hc=>?_)))
 ·have qa:j<ps.length:=by omega
  have qc:j<ps.length:=by omega
  have DB:ps[j]∈jv ps:=Jh.2 (ap qc)
  refine aE (ba (aw (bP (b8 j ew bt F F (bU 0) qc (by rw[ag,Cz];exact qc)) (ad (dR nw F F (bU 0) (XZ qc)) (bh (ai (aJ (aQ (dr (az (bH (jy (K:=fB) (V:=(fun n:Nat=>Value.int .i64 (n:Int))) (a:=((ps[j]:Nat):Int)) E2 bt (fZ.int nw) F F (mG 1)) (v':=vN (sz (jv ps) ps[j])) (by rw[Su DB];rfl)) (ad (b8 j ew bt F F (bU 0) qc (by rw[ag,Cz];exact qc)) (au (gw (v:=vN (sz (jv ps) ps[j])) (vs:=[(vN (sz (jv ps) ps[j]))]) (cs:=bn (HL ps j)) j 0 bt F F F F F (by simp) F (by rw[ag,Cz];show _+1≤_;omega) ?_)))))))))))))
  refine cY (O':=[ak pb pc 3 1 (bn (HL ps (j+1))),cM fB (fun n:Nat=>Value.int .i64 (n:Int)) Q1 (GQ (jv ps))]) (by rw[show dq (bn (HL ps j)) j [(vN (sz (jv ps) ps[j]))]=bn (HL ps (j+1))from(by rw[←Sv qc];simp[dq])];exact bj (ay _)) ?_
  refine TO.nl (aJ (ad (bK (b:=1) j F F (by omega)) (aS ?_)))
  exact⟨j+1,by omega,[ak pb pc 3 1 (bn (HL ps (j+1))),cM fB (fun n:Nat=>Value.int .i64 (n:Int)) Q1 (GQ (jv ps))],(by exact Sub.rf),F,by omega,(.of F)⟩
 have IP: ¬j<ps.length:=by omega
 refine bA ?_
 refine e7 ?_
 refine pk.zero results29 ?_
 have hje:j=ps.length:=by omega
 rw[hje,Sw]
 exact⟨[ak pb pc 3 1 (bn (ps.map (sz (jv ps))))],(by exact Sub.k .z),F⟩
theorem N8:E4 prog 69 ⟨"text",9,0,false, "", "sentinel/safra",0⟩ ⟨"priority",3,1,false, "", "sentinel/safra",16⟩:=⟨N_,ZE,nw,F,F,by decide,by decide,by kernel_rfl⟩
theorem acv (w:World) [eT prog w] (b:Bu) (sb eb tb:Option Addr) (sc ec tc:Nat) (vs:List Value) (h:nL w b sb eb tb vs) (hB:Aw b) (hE:b.ao.length≤100000) (hS:cC b=0→b.ae≤5∧b.aP.length≤2):
  cR prog 7 [.agg (bf b sb sc eb ec tb tc).toArray,vI 300] w fun v N=> ∃(p:dG) (nb fb:Option Addr) (nc fc:Nat) (qs:List Rec) (e:Nat),v=.tuple #[.agg (ri p nb nc fb fc).toArray,vI (e:Int)]∧N=[ak nb nc 22 1 (bW qs),ak fb fc 3 1 (ints p.dX)]++bQ 3 qs∧nums qs=p.next∧(e=0→Sx b p):=by
 refine aF func7 F ntmps7 F ?_
 have mK:=hB.st;have Rf:=hB.ed;have JZ:=hB.se
 refine a8 (au (e5 [(vI b.vars),(vI b.ae),(.slice sb b.start.length sc),(.slice eb b.ao.length ec),(.slice tb b.aP.length tc)] (fun z1=>?_)))
 refine au (bO cQ (fun z2=>?_))
 refine bh (bJ (ad (eg 1 vn eF) ?_))
 have acw:=fun(w1:World) (hI:Inv w [oI z2 34 [(vI 0),(vI 0),nS,nS],oI z1 26 [(vI b.vars),(vI b.ae),(.slice sb b.start.length sc),(.slice eb b.ao.length ec),(.slice tb b.aP.length tc)]] w1)=>(haveI:=j6 hI;BN w1 b sb eb tb sc ec tc vs (hI.bu h) hB)
 refine TO.lc Ix (aK acw) ?_
 clear acw
 rintro vr O' ⟨N,rfl,rfl,rfl⟩
 refine ai (bP gB (TO.nl (aH F (fun hc=>?_) (fun hc=>?_))))
 ·have aaY:cC b≠0:=by omega
  refine ba (T.dH 22 1 (T.dH 3 1 ?_))
  refine aJ (ad (eg 2 gQ cQ) (aQ (au (cE [(vI 0),(vI 0),nS,nS] 2 cQ ?_))))
  refine bm ?_
  refine dT (vN (cC b)) (i:=2) results7 gQ F cQ F F F F ?_
  exact⟨[ak none 0 22 1 [],ak none 0 3 1 []]++bQ 3 [],(by exact Sub.k (.k .z)),⟨0,0,[],[]⟩,none,none,0,0,[],cC b,F,F,F,fun h9=>absurd h9 (by omega)⟩
 have aaZ: ¬cC b≠0:=by omega
 have wY:cC b=0:=by omega
 have hv:eJ b:=gE.1 wY
 obtain⟨Q2,Fs,yD⟩:=Sy hv (hS wY).1 (hS wY).2 hB hE
 obtain⟨d,hd⟩: ∃d,AG (eU b)=d:=⟨_,F⟩
 rw[hd]at yD
 refine aE (ba (bP (cD cH (by omega)) (aQ (ax aC (ax (cD fg (by omega)) (bF ca (cK (aE (a8 ?_)))))))))
 refine ad (eg 1 vn eF) ?_
 have E5:=fun(w1:World) (hI:Inv w [oI z2 34 [(vI 0),(vI 0),nS,nS],oI z1 26 [(vI b.vars),(vI b.ae),(.slice sb b.start.length sc),(.slice eb b.ao.length ec),(.slice tb b.aP.length tc)]] w1)=>(haveI:=j6 hI;(by
  have h9:=aaW w1 b sb eb tb sc ec tc vs (hI.bu h) hB
  rw[wY]at h9;exact h9))
 refine TO.lc acx (aK E5) ?_
 clear E5
 rintro vr O' ⟨N,rfl,sx,ex,tx,Vk,Vl,Vm,qx,rfl,rfl,X0⟩
 refine cY (O':=([ak sx Vk 3 1 (ints (eU b).start),ak ex Vl 106 4 (eX (eU b).ao),ak tx Vm 22 1 (bW qx),oI z2 34 [(vI 0),(vI 0),nS,nS],oI z1 26 [(vI b.vars),(vI b.ae),(.slice sb b.start.length sc),(.slice eb b.ao.length ec),(.slice tb b.aP.length tc)]]++(bQ 3 qx))) (by exact EM [ak sx Vk 3 1 (ints (eU b).start),ak ex Vl 106 4 (eX (eU b).ao),ak tx Vm 22 1 (bW qx)] _ (bQ 3 qx)) ?_
 refine az (bX _) (ad (bX _) (au (bO eF (fun z3=>?_))))
 let eE:Value:=(.slice sx ((eU b).start.length) Vk)
 let fo:Value:=(.slice ex ((eU b).ao.length) Vl)
 let gC:Value:=(.slice tx ((eU b).aP.length) Vm)
 let jR:Value:=(vI (eU b).ae)
 let jT:Value:=(vI (eU b).vars)
 refine au (cE [jT,jR,eE,fo,gC] 0 eF ?_)
 refine bh (bJ (aQ (bF (cD gB (fun h9=>h9 F)) (cK (aE (aB (eg 0 vn eF) ?_))))))
 have acy:=fun(w1:World) (hI:Inv w ([oI z3 26 [jT,jR,eE,fo,gC],ak sx Vk 3 1 (ints (eU b).start),ak ex Vl 106 4 (eX (eU b).ao),ak tx Vm 22 1 (bW qx),oI z2 34 [(vI 0),(vI 0),nS,nS],oI z1 26 [(vI b.vars),(vI b.ae),(.slice sb b.start.length sc),(.slice eb b.ao.length ec),(.slice tb b.aP.length tc)]]++(bQ 3 qx)) w1)=>(haveI:=j6 hI;(by
  have h9:=Wu w1 (eU b) sx ex tx Vk Vl Vm (bW qx) (show nL w1 (eU b) sx ex tx (bW qx)from⟨hI.ga (mG 1),hI.ga (mG 2),hI.ga (mG 3),X0▸sH (E:=3) hI (fun q hq=>bl _ (List.mem_map.2 ⟨q,hq,F⟩))⟩) (Ji hB)
  rw[Q2,hd]at h9;exact h9))
 refine TO.lc acz (aK acy) ?_
 clear acy
 rintro vr O' ⟨N,rfl,sy,ey,ty,iq,gl,iy,qy,rfl,rfl,hqy⟩
 refine cY (O':=([ak sy iq 3 1 (ints d.start),ak ey gl 106 4 (eX d.ao),ak ty iy 22 1 (bW qy),oI z3 26 [jT,jR,eE,fo,gC],ak sx Vk 3 1 (ints (eU b).start),ak ex Vl 106 4 (eX (eU b).ao),ak tx Vm 22 1 (bW qx),oI z2 34 [(vI 0),(vI 0),nS,nS],oI z1 26 [(vI b.vars),(vI b.ae),(.slice sb b.start.length sc),(.slice eb b.ao.length ec),(.slice tb b.aP.length tc)]]++((bQ 3 qy)++(bQ 3 qx)))) (by exact vY [ak sy iq 3 1 (ints d.start),ak ey gl 106 4 (eX d.ao),ak ty iy 22 1 (bW qy)] _ (bQ 3 qy) (bQ 3 qx)) ?_
 refine az (bX _) (ad (bX _) (au (bO eF (fun z4=>?_))))
 refine au (cE [(vI d.vars),(vI d.ae),(.slice sy d.start.length iq),(.slice ey d.ao.length gl),(.slice ty d.aP.length iy)] 0 eF ?_)
 refine bh (bJ (aQ (bF (cD gB (fun h9=>h9 F)) (cK (aE ?_)))))
 obtain⟨r,rfl,hr⟩:=Oa (hqy.trans yD.se)
 subst hr
 have Kp: ∀x∈r.xs,0≤x:=fun x hx=>(yD.fs x hx).1
 have kB: ∀x∈d.start,0≤x:=fun x hx=>(yD.st x hx).1
 obtain⟨aa,hF⟩: ∃z,lr (r.xs.map Int.toNat)=z:=⟨_,F⟩
 obtain⟨S0,Vn⟩: ∃z,lr (d.start.map Int.toNat)=z:=⟨_,F⟩
 have Mg:=yD.n10
 have lF:aa<18446744073709551616:=by rw[←hF];exact du (Ob Kp yD.fs) (dw (n:=2) (by decide) (show d.ae.toNat≤64 by omega))
 have lS:S0<2^d.ae.toNat:=by rw[←Vn];exact Ob kB yD.st
 have ahh:S0<18446744073709551616:=du lS (dw (n:=2) (by decide) (show d.ae.toNat≤64 by omega))
 have amq:d.aP.length=1:=by rw[yD.se];rfl
 have amr:=yD.fl;have ahi:=yD.sl
 refine cV (O':=([oI z4 26 [(vI d.vars),(vI d.ae),(.slice sy d.start.length iq),(.slice ey d.ao.length gl),(.slice ty d.aP.length iy)],ak sy iq 3 1 (ints d.start),ak ey gl 106 4 (eX d.ao),ak ty iy 22 1 (bW [r]),oI z3 26 [jT,jR,eE,fo,gC],ak sx Vk 3 1 (ints (eU b).start),ak ex Vl 106 4 (eX (eU b).ao),ak tx Vm 22 1 (bW qx),oI z2 34 [(vI 0),(vI 0),nS,nS],oI z1 26 [(vI b.vars),(vI b.ae),(.slice sb b.start.length sc),(.slice eb b.ao.length ec),(.slice tb b.aP.length tc)]]++([ak r.b r.c 3 1 (ints r.xs)]++bQ 3 qx))) (by exact Sub.rf) ?_
 refine cV (O':=[oI z2 34 [(vI 0),(vI 0),nS,nS],oI z1 26 [(vI b.vars),(vI b.ae),(.slice sb b.start.length sc),(.slice eb b.ao.length ec),(.slice tb b.aP.length tc)],oI z4 26 [(vI d.vars),(vI d.ae),(.slice sy d.start.length iq),(.slice ey d.ao.length gl),(.slice ty d.aP.length iy)],ak sy iq 3 1 (ints d.start),ak ey gl 106 4 (eX d.ao),ak ty iy 22 1 (bW [r]),ak r.b r.c 3 1 (ints r.xs)]) (fq ([oI z3 26 [jT,jR,eE,fo,gC],ak sx Vk 3 1 (ints (eU b).start),ak ex Vl 106 4 (eX (eU b).ao),ak tx Vm 22 1 (bW qx)]++bQ 3 qx)) ?_
 refine iD (fun ρ O=> ∃(zM:Nat) (fb:Option Addr) (fk:Nat),O=[oI zM 62 [(vI d.vars),(vI d.ae),(.slice sy d.start.length iq),(.slice ey d.ao.length gl),(.slice ty d.aP.length iy),(.slice fb ((sR aa).length) ((sR aa).length))],ak fb fk 164 1 (fe (sR aa)),oI z2 34 [(vI 0),(vI 0),nS,nS],oI z1 26 [(vI b.vars),(vI b.ae),(.slice sb b.start.length sc),(.slice eb b.ao.length ec),(.slice tb b.aP.length tc)],oI z4 26 [(vI d.vars),(vI d.ae),(.slice sy d.start.length iq),(.slice ey d.ao.length gl),(.slice ty d.aP.length iy)],ak sy iq 3 1 (ints d.start),ak ey gl 106 4 (eX d.ao),ak ty iy 22 1 (bW [r]),ak r.b r.c 3 1 (ints r.xs)]∧cL [(0,(.agg #[(vI b.vars),(vI b.ae),(.slice sb b.start.length sc),(.slice eb b.ao.length ec),(.slice tb b.aP.length tc)])),(1,vI 300),(2,(.pointer (aD z1))),(4,(.pointer (aD z2))),(5,vI 0),(6,vN (cC b)),(7,(.pointer (aD z3))),(8,(.pointer (aD z4))),(9,(.pointer (aD zM)))] ρ) ?_ ?_
 ·refine T.oH [oI z2 34 [(vI 0),(vI 0),nS,nS],oI z1 26 [(vI b.vars),(vI b.ae),(.slice sb b.start.length sc),(.slice eb b.ao.length ec),(.slice tb b.aP.length tc)],oI z4 26 [(vI d.vars),(vI d.ae),(.slice sy d.start.length iq),(.slice ey d.ao.length gl),(.slice ty d.aP.length iy)],ak sy iq 3 1 (ints d.start),ak ey gl 106 4 (eX d.ao),ak ty iy 22 1 (bW [r]),ak r.b r.c 3 1 (ints r.xs)] 9 mixed F (by exact Sub.rf) (fun _ _ _ _ h=>h) ?_
  refine aO 0 F (by kernel_rfl) (eg 2 vn eF) ?_
  refine aO 1 F (by kernel_rfl) (bY vn dQ) ?_
  refine aO 2 F (by kernel_rfl) (bp 2 mi) ?_
  refine aO 3 F (by kernel_rfl) (b8 0 mi cf F F (bU 5) (by omega) (show 0<(bW [r]).length from Nat.zero_lt_one)) ?_
  refine aO 4 F (by kernel_rfl) (dR ew F F (bU 5) (show(bW [r])[0]? =some _ from F)) ?_
  have rj:=fun(w1:World) (hI:Inv w [oI z2 34 [(vI 0),(vI 0),nS,nS],oI z1 26 [(vI b.vars),(vI b.ae),(.slice sb b.start.length sc),(.slice eb b.ao.length ec),(.slice tb b.aP.length tc)],oI z4 26 [(vI d.vars),(vI d.ae),(.slice sy d.start.length iq),(.slice ey d.ao.length gl),(.slice ty d.aP.length iy)],ak sy iq 3 1 (ints d.start),ak ey gl 106 4 (eX d.ao),ak ty iy 22 1 (bW [r]),ak r.b r.c 3 1 (ints r.xs)] w1)=>(haveI:=j6 hI;(by
   have h9:=ofS w1 r.b r.c (r.xs.map Int.toNat) (by rw[←yE Kp];exact hI.ga (mG 6)) (fun q9 h8=>by obtain⟨x8,h7,rfl⟩:=List.mem_map.1 h8;have:=(yD.fs x8 h7).2;omega) (by rw[ag];omega)
   rw[ag,hF]at h9;exact h9))
  refine aZ [5,7] (by kernel_rfl) F ⟨⟨_,F,F,dV I4 (aK rj) ?_⟩,⟨_,F,F,bO wa (fun zM=>⟨by exact Sub.d (.k (.k (.k (.k (.k (.k (.k .z))))))),?_⟩)⟩,trivial⟩
  ·clear rj
   rintro vr O' ⟨N,rfl,fb,fk,rfl,rfl⟩
   refine⟨by exact Sub.d (.k (.k (.k (.k (.k (.k (.k .z))))))),?_⟩
   let gG:Value:=(.slice fb ((sR aa).length) ((sR aa).length))
   refine aO 6 F (by kernel_rfl) (dy [(vI d.vars),(vI d.ae),(.slice sy d.start.length iq),(.slice ey d.ao.length gl),(.slice ty d.aP.length iy),gG] Oc wa (by kernel_rfl)) ?_
   refine aZ [7] (by kernel_rfl) F ⟨⟨_,F,F,bO wa (fun zM=>⟨by exact Sub.d (.d (.k (.k (.k (.k (.k (.k (.k .z)))))))),?_⟩)⟩,trivial⟩
   refine aZ [8] (by kernel_rfl) F ⟨⟨_,F,F,cE [(vI d.vars),(vI d.ae),(.slice sy d.start.length iq),(.slice ey d.ao.length gl),(.slice ty d.aP.length iy),gG] 0 wa ⟨by exact Sub.d (.d (.k (.k (.k (.k (.k (.k (.k .z)))))))),?_⟩ F F F F⟩,trivial⟩
   exact dB (by kernel_rfl) ⟨zM,fb,fk,F,(.of F)⟩ (by exact Sub.rf)
  have rj:=fun(w1:World) (hI:Inv w [oI zM 62 [(vI 0),(vI 0),nS,nS,nS,nS],oI z2 34 [(vI 0),(vI 0),nS,nS],oI z1 26 [(vI b.vars),(vI b.ae),(.slice sb b.start.length sc),(.slice eb b.ao.length ec),(.slice tb b.aP.length tc)],oI z4 26 [(vI d.vars),(vI d.ae),(.slice sy d.start.length iq),(.slice ey d.ao.length gl),(.slice ty d.aP.length iy)],ak sy iq 3 1 (ints d.start),ak ey gl 106 4 (eX d.ao),ak ty iy 22 1 (bW [r]),ak r.b r.c 3 1 (ints r.xs)] w1)=>(haveI:=j6 hI;(by
   have h9:=ofS w1 r.b r.c (r.xs.map Int.toNat) (by rw[←yE Kp];exact hI.ga (mG 7)) (fun q9 h8=>by obtain⟨x8,h7,rfl⟩:=List.mem_map.1 h8;have:=(yD.fs x8 h7).2;omega) (by rw[ag];omega)
   rw[ag,hF]at h9;exact h9))
  refine aZ [5] (by kernel_rfl) F ⟨⟨_,F,F,dV I4 (aK rj) ?_⟩,trivial⟩
  clear rj
  rintro vr O' ⟨N,rfl,fb,fk,rfl,rfl⟩
  refine⟨by exact Sub.d (.d (.k (.k (.k (.k (.k (.k (.k .z)))))))),?_⟩
  let im:Value:=(.slice fb ((sR aa).length) ((sR aa).length))
  refine aO 6 F (by kernel_rfl) (dy [(vI d.vars),(vI d.ae),(.slice sy d.start.length iq),(.slice ey d.ao.length gl),(.slice ty d.aP.length iy),im] Oc wa (by kernel_rfl)) ?_
  refine aZ [8] (by kernel_rfl) F ⟨⟨_,F,F,cE [(vI d.vars),(vI d.ae),(.slice sy d.start.length iq),(.slice ey d.ao.length gl),(.slice ty d.aP.length iy),im] 1 wa ⟨by exact Sub.d (.d (.k (.k (.k (.k (.k (.k (.k .z)))))))),?_⟩ F F F F⟩,trivial⟩
  exact dB (by kernel_rfl) ⟨zM,fb,fk,F,(.of F)⟩ (by exact Sub.dm [ak fb fk 164 1 (fe (sR aa))] _ (.k (.k (.k (.k (.k (.k (.k (.k .z)))))))))
 rintro ρ O ⟨zM,fb,fk,rfl,hH⟩
 obtain⟨fy,rfl⟩:=hH.elim
 clear hH
 refine aB (bY vn cf) (ad (bp 4 ew) ?_)
 let gn:Value:=(.slice fb ((sR aa).length) ((sR aa).length))
 have acA:=fun(w1:World) (hI:Inv w [oI zM 62 [(vI d.vars),(vI d.ae),(.slice sy d.start.length iq),(.slice ey d.ao.length gl),(.slice ty d.aP.length iy),gn],ak fb fk 164 1 (fe (sR aa)),oI z2 34 [(vI 0),(vI 0),nS,nS],oI z1 26 [(vI b.vars),(vI b.ae),(.slice sb b.start.length sc),(.slice eb b.ao.length ec),(.slice tb b.aP.length tc)],oI z4 26 [(vI d.vars),(vI d.ae),(.slice sy d.start.length iq),(.slice ey d.ao.length gl),(.slice ty d.aP.length iy)],ak sy iq 3 1 (ints d.start),ak ey gl 106 4 (eX d.ao),ak ty iy 22 1 (bW [r]),ak r.b r.c 3 1 (ints r.xs)] w1)=>(haveI:=j6 hI;(by
  have h9:=ofS w1 sy iq (d.start.map Int.toNat) (by rw[←yE kB];exact hI.ga (mG 5)) (fun q9 h8=>by obtain⟨x8,h7,rfl⟩:=List.mem_map.1 h8;have:=(yD.st x8 h7).2;omega) (by rw[ag];omega)
  rw[ag,Vn]at h9;exact h9))
 refine TO.lc I4 (aK acA) ?_
 clear acA
 rintro vr O' ⟨N,rfl,z0,Mj,rfl,rfl⟩
 let dC:List Value:=[vI 0,(.slice z0 ((sR S0).length) ((sR S0).length))]
 refine ad (dy dC HI fT (by kernel_rfl)) (au (cW (m:=1) (parts:=[(0,_)]) (cs:=dC) gr fT (by decide) (by kernel_rfl) F (fun z5=>?_)))
 refine ai (a8 (au (io iv (fun n:Nat=>Value.int .i64 (n:Int)) (fun rk=>?_))))
 refine aQ ?_
 have acC:=fun(w1:World) (hI:Inv w [cM iv (fun n:Nat=>Value.int .i64 (n:Int)) rk [],aU z5 1 64 2 dC,ak z0 Mj 164 1 (fe (sR S0)),oI zM 62 [(vI d.vars),(vI d.ae),(.slice sy d.start.length iq),(.slice ey d.ao.length gl),(.slice ty d.aP.length iy),gn],ak fb fk 164 1 (fe (sR aa)),oI z2 34 [(vI 0),(vI 0),nS,nS],oI z1 26 [(vI b.vars),(vI b.ae),(.slice sb b.start.length sc),(.slice eb b.ao.length ec),(.slice tb b.aP.length tc)],oI z4 26 [(vI d.vars),(vI d.ae),(.slice sy d.start.length iq),(.slice ey d.ao.length gl),(.slice ty d.aP.length iy)],ak sy iq 3 1 (ints d.start),ak ey gl 106 4 (eX d.ao),ak ty iy 22 1 (bW [r]),ak r.b r.c 3 1 (ints r.xs)] w1)=>(haveI:=j6 hI;(NG w1 (aD z5) 1 [(⟨0,S0,z0,Mj⟩:VR)] ⟨hI.ga (mG 1),fun q9 h9=>by rw[List.mem_singleton.1 h9];exact hI.ga (mG 2)⟩ (fun q9 h9=>by rw[List.mem_singleton.1 h9];exact ahh) (fun q9 h9=>by rw[List.mem_singleton.1 h9];exact(show 0<1000 from by decide)) (show 1≤64 from by decide)))
 refine TO.lc Od (aK acC) ?_
 clear acC
 rintro vr O' ⟨N,rfl,rfl,rfl⟩
 refine ad (dy [(str (kP [⟨0,S0⟩])),vI 1] CA qh (by kernel_rfl)) (au (jD (a:=(mE (([⟨0,S0⟩],1):po))) (v:=(0:Nat)) 0 X1 (oz N8) F F F F (by simp) ?_))
 refine dr (au (dv (v:=(.slice (aD z5) 1 1)) uj qg F F F (fun z7=>?_)))
 refine bh (ai (a8 (au (dv (v:=vI 1) ew bt F F F (fun z8=>?_)))))
 refine bh (bJ (ai (aw (T.dH 22 1 ?_))))
 refine cV (O':=[aU z7 1 66 1 [(.slice (aD z5) 1 1)],cM iv (fun n:Nat=>Value.int .i64 (n:Int)) rk [((mE (([⟨0,S0⟩],1):po)),(0:Nat))],aU z8 1 3 1 [vI 1],ak none 0 22 1 [],oI z2 34 [(vI 0),(vI 0),nS,nS],oI zM 62 [(vI d.vars),(vI d.ae),(.slice sy d.start.length iq),(.slice ey d.ao.length gl),(.slice ty d.aP.length iy),gn],ak fb fk 164 1 (fe (sR aa)),oI z1 26 [(vI b.vars),(vI b.ae),(.slice sb b.start.length sc),(.slice eb b.ao.length ec),(.slice tb b.aP.length tc)],oI z4 26 [(vI d.vars),(vI d.ae),(.slice sy d.start.length iq),(.slice ey d.ao.length gl),(.slice ty d.aP.length iy)],ak ey gl 106 4 (eX d.ao),aU z5 1 64 2 dC,ak z0 Mj 164 1 (fe (sR S0))]) (by exact Sub.dm [ak none 0 22 1 [],aU z8 1 3 1 [vI 1]] _ (.dm [ak none 0 22 1 [],aU z8 1 3 1 [vI 1]] _ (.dm [ak none 0 22 1 []] _ (.k (.dm [aU z5 1 64 2 dC,ak z0 Mj 164 1 (fe (sR S0)),oI zM 62 [(vI d.vars),(vI d.ae),(.slice sy d.start.length iq),(.slice ey d.ao.length gl),(.slice ty d.aP.length iy),gn],ak fb fk 164 1 (fe (sR aa))] _ (.dm [aU z5 1 64 2 dC,ak z0 Mj 164 1 (fe (sR S0))] _ (.dm [aU z5 1 64 2 dC,ak z0 Mj 164 1 (fe (sR S0))] _ (.dm [aU z5 1 64 2 dC,ak z0 Mj 164 1 (fe (sR S0))] _ (.dm [aU z5 1 64 2 dC,ak z0 Mj 164 1 (fe (sR S0))] _ (.dm [aU z5 1 64 2 dC,ak z0 Mj 164 1 (fe (sR S0)),ak sy iq 3 1 (ints d.start)] _ (.k (.k .z)))))))))))) ?_
 refine cV (O':=[aU z7 1 66 1 (sZ [(⟨(aD z5),1,[(⟨0,S0,z0,Mj⟩:VR)]⟩:pm)]),cM iv (fun n:Nat=>Value.int .i64 (n:Int)) rk (([(([⟨0,S0⟩],1):po)].map mE).zipIdx),aU z8 1 3 1 (bn ([(([⟨0,S0⟩],1):po)].map Prod.snd)),ak none 0 22 1 (bW []),oI z2 34 [(vI 0),(vI 0),nS,nS],oI zM 62 [(vI d.vars),(vI d.ae),(.slice sy d.start.length iq),(.slice ey d.ao.length gl),(.slice ty d.aP.length iy),gn],ak fb fk 164 1 (fe (sR aa)),oI z1 26 [(vI b.vars),(vI b.ae),(.slice sb b.start.length sc),(.slice eb b.ao.length ec),(.slice tb b.aP.length tc)],oI z4 26 [(vI d.vars),(vI d.ae),(.slice sy d.start.length iq),(.slice ey d.ao.length gl),(.slice ty d.aP.length iy)],ak ey gl 106 4 (eX d.ao)]++(r3 64 164 [(⟨(aD z5),1,[(⟨0,S0,z0,Mj⟩:VR)]⟩:pm)]++bQ 3 [])) (by exact Sub.rf) ?_
 have hG0:iu d.ae.toNat (([⟨0,S0⟩],1):po).1:=iu.start lS
 refine cS (fun(s:Nat) ρ O=> ∃(Kh pb nb:Option Addr) (Ki pc nc:Nat) (ks:List po) (ts:List pm) (q7:List Rec),O=([ak Kh Ki 66 1 (sZ ts),cM iv (fun n:Nat=>Value.int .i64 (n:Int)) rk ((ks.map mE).zipIdx),ak pb pc 3 1 (bn (ks.map Prod.snd)),ak nb nc 22 1 (bW q7),oI z2 34 [(vI 0),(vI 0),(.slice nb q7.length nc),nS],oI zM 62 [(vI d.vars),(vI d.ae),(.slice sy d.start.length iq),(.slice ey d.ao.length gl),(.slice ty d.aP.length iy),gn],ak fb fk 164 1 (fe (sR aa)),oI z1 26 [(vI b.vars),(vI b.ae),(.slice sb b.start.length sc),(.slice eb b.ao.length ec),(.slice tb b.aP.length tc)],oI z4 26 [(vI d.vars),(vI d.ae),(.slice sy d.start.length iq),(.slice ey d.ao.length gl),(.slice ty d.aP.length iy)],ak ey gl 106 4 (eX d.ao)]++(r3 64 164 ts++bQ 3 q7))∧q7.length=s∧CB d.ae.toNat d.ao aa (([⟨0,S0⟩],1):po) (2^b.vars.toNat) ks ts s (nums q7)∧cL [(0,(.agg #[(vI b.vars),(vI b.ae),(.slice sb b.start.length sc),(.slice eb b.ao.length ec),(.slice tb b.aP.length tc)])),(1,vI 300),(2,(.pointer (aD z1))),(4,(.pointer (aD z2))),(6,vN (cC b)),(7,(.pointer (aD z3))),(8,(.pointer (aD z4))),(9,(.pointer (aD zM))),(10,(.slice (aD z5) 1 1)),(11,(.map (some rk))),(12,(.slice Kh ks.length Ki)),(13,(.slice pb ks.length pc)),(14,vN s)] ρ) (fun s=>300-s) 0 ?_ ?_
 ·exact⟨(aD z7),(aD z8),none,_,_,0,[(([⟨0,S0⟩],1):po)],[(⟨(aD z5),1,[(⟨0,S0,z0,Mj⟩:VR)]⟩:pm)],[],F,F,CB.zero F hG0,(.of F)⟩
 rintro s ρ O ⟨Kh,pb,nb,Ki,pc,nc,ks,ts,q7,rfl,tD,hD,hH⟩
 obtain⟨fy,rfl⟩:=hH.elim
 clear hH
 have Me:=Oe hD.tx
 have AF:=hD.le
 refine ba (bI (az (bV uj) (bF cH (aH F (fun hc=>?_) (fun hc=>?_)))))
 ·have acE:s<ks.length:=by omega
  have Rr:s<ks.length:=by omega
  obtain⟨k,hk⟩: ∃k,ks[s]? =some k:=⟨_,ah Rr⟩
  have hgk:iu d.ae.toNat k.1:=hD.gd k (bE hk)
  have h64:2^b.vars.toNat≤2^6:=dw (n:=2) (by decide) (by have:=hv.v6;have:=hv.v0;omega)
  have Sz:=yD.vd.n0
  refine aE (ba (aw (a8 (bh (bJ (ad (bY vn bt) (ad (bp 7 nw) (ad (bH (uZ (v:=b.vars.toNat) F (by show Value.int _ b.vars=_;rw[bq hv.v0]) (by have:=hv.v6;omega)) (v':=vN (2^b.vars.toNat)) F) (aS (aw (T.dH 3 1 ?_)))))))))))
  let dM:Value:=(.slice nb q7.length nc)
  refine cS (fun(x:Nat) ρ O=> ∃(yb qk s7:Option Addr) (yc oK jV:Nat) (ys:List Int) (ms:List po) (us:List pm),O=([ak yb yc 3 1 (ints ys),ak qk oK 66 1 (sZ us),cM iv (fun n:Nat=>Value.int .i64 (n:Int)) rk ((ms.map mE).zipIdx),ak s7 jV 3 1 (bn (ms.map Prod.snd)),ak nb nc 22 1 (bW q7),oI z2 34 [(vI 0),(vI 0),dM,nS],oI zM 62 [(vI d.vars),(vI d.ae),(.slice sy d.start.length iq),(.slice ey d.ao.length gl),(.slice ty d.aP.length iy),gn],ak fb fk 164 1 (fe (sR aa)),oI z1 26 [(vI b.vars),(vI b.ae),(.slice sb b.start.length sc),(.slice eb b.ao.length ec),(.slice tb b.aP.length tc)],oI z4 26 [(vI d.vars),(vI d.ae),(.slice sy d.start.length iq),(.slice ey d.ao.length gl),(.slice ty d.aP.length iy)],ak ey gl 106 4 (eX d.ao)]++(r3 64 164 us++bQ 3 q7))∧x≤(2^b.vars.toNat)∧yF d.ae.toNat d.ao aa (([⟨0,S0⟩],1):po) ks ms us k x ys∧cL [(0,(.agg #[(vI b.vars),(vI b.ae),(.slice sb b.start.length sc),(.slice eb b.ao.length ec),(.slice tb b.aP.length tc)])),(1,vI 300),(2,(.pointer (aD z1))),(4,(.pointer (aD z2))),(6,vN (cC b)),(7,(.pointer (aD z3))),(8,(.pointer (aD z4))),(9,(.pointer (aD zM))),(10,(.slice (aD z5) 1 1)),(11,(.map (some rk))),(12,(.slice qk ms.length oK)),(13,(.slice s7 ms.length jV)),(14,vN s),(15,(.slice yb ys.length yc)),(83,vN (2^b.vars.toNat)),(84,vN x)] ρ) (fun x=>(2^b.vars.toNat)-x) 0 ?_ ?_
  ·exact⟨none,Kh,pb,0,Ki,pc,[],ks,ts,F,aG _,hD.row,(.of F)⟩
  rintro x ρ O ⟨yb,qk,s7,yc,oK,jV,ys,ms,us,rfl,hx,hJ,hH⟩
  obtain⟨fy,rfl⟩:=hH.elim
  clear hH
  have ahk:=Oe hJ.tx
  have DB:=hJ.le
  have Up:=hJ.len.1
  refine aB cH (TO.ns (aH F (fun hc=>?_) (fun hc=>?_)))
  ·have ajJ:x<(2^b.vars.toNat):=by omega
   have jm:x<(2^b.vars.toNat):=by omega
   obtain⟨kk,yG⟩: ∃z,yH d.ae.toNat d.ao aa k x=z:=⟨_,F⟩
   obtain⟨rm,hrm⟩: ∃z,kM d.ao aa x k.1=z:=⟨_,F⟩
   obtain⟨gm,Je⟩: ∃z,mU d.ao aa x k.1=z:=⟨_,F⟩
   have Jj:ms[s]? =some k:=by rw[prefix_at hJ.len.2 Rr];exact hk
   have Zz:s<ms.length:=(List.getElem?_eq_some_iff.1 Jj).1
   have D9:s<us.length:=by rw[ahk];exact Zz
   have He:iV us[s].qs=k.1:=acF hJ.tx Jj D9
   have amt:us[s].qs.length=k.1.length:=by rw[←gU,He]
   have GR:iu d.ae.toNat kk.1:=by rw[←yG];exact iu.step hgk yD.edn
   have E6:Lx.stepT d.ao aa x k.1=kk.1:=by rw[←yG];rfl
   have hp2:kk.2=if rm=k.1.length∧gm=k.1.length then 1 else(if gm<rm∧gm<d.ae.toNat+1 then 2*((d.ae.toNat+1)-gm)+2 else if 0<rm∧rm<d.ae.toNat+1 then 2*((d.ae.toNat+1)-rm)+3 else 1):=by rw[←yG,←hrm,←Je];exact X2 _ _ _ _ _
   refine aE (ba (aw (bI (ai (ba ?_)))))
   refine e6 [(0,0),(1,0),(2,0),(3,0),(4,0),(5,0),(6,0),(7,1),(8,0),(9,0),(10,0),(11,0),(12,0),(13,0),(14,0)] ?_
   refine am F (eg 6 R6 wa) (am F aC (am F aC (am F (b8 s uj qg F F (bU 1) Zz (by rw[ag];omega)) (am F (dR gr F F (bU 1) (Vo D9)) (am F aC (am F (jj nw uT5 F (by first|rfl|exact gN ⟨by omega,by omega⟩|exact EJ (by omega)|exact Cg (by omega))) ?_))))))
   let ii:Value:=(.slice fb ((sR aa).length) ((sR aa).length))
   have Of:=fun(w1:World) (hI:Inv w ([ak yb yc 3 1 (ints ys),ak qk oK 66 1 (sZ us),cM iv (fun n:Nat=>Value.int .i64 (n:Int)) rk ((ms.map mE).zipIdx),ak s7 jV 3 1 (bn (ms.map Prod.snd)),ak nb nc 22 1 (bW q7),oI z2 34 [(vI 0),(vI 0),dM,nS],oI zM 62 [(vI d.vars),(vI d.ae),(.slice sy d.start.length iq),(.slice ey d.ao.length gl),(.slice ty d.aP.length iy),ii],ak fb fk 164 1 (fe (sR aa)),oI z1 26 [(vI b.vars),(vI b.ae),(.slice sb b.start.length sc),(.slice eb b.ao.length ec),(.slice tb b.aP.length tc)],oI z4 26 [(vI d.vars),(vI d.ae),(.slice sy d.start.length iq),(.slice ey d.ao.length gl),(.slice ty d.aP.length iy)],ak ey gl 106 4 (eX d.ao)]++(r3 64 164 us++bQ 3 q7)) w1)=>(haveI:=j6 hI;(show cR prog 27 [(.agg #[(vI d.vars),(vI d.ae),(.slice sy d.start.length iq),(.slice ey d.ao.length gl),(.slice ty d.aP.length iy),(.slice fb ((sR aa).length) ((sR aa).length))]),.slice us[s].b us[s].qs.length us[s].c,v8 x] w1 (fun v N=> ∃t9:pm,v=.tuple #[t9.val,vN rm,vN gm]∧N=[ak t9.b t9.c 64 2 (gW t9.qs)]++f_ 164 t9.qs∧iV t9.qs=kk.1)from by
    have h9:=ab3 w1 d sy ey ty fb iq gl iy aa d.ae.toNat (hI.ga (mG 10)) yD.ed yD.pn yD.el Mg yD.edn (hI.ga (mG 7)) lF us[s].b us[s].c us[s].qs (hI.X3 (SA D9)) (He▸hgk) x (by omega)
    rw[He,hrm,Je,E6]at h9
    exact h9.mono fun v N ⟨t9,h1,h2,h3⟩=>⟨t9,h1,h2,h3⟩))
   refine eH F F (dV acH (aK Of) ?_)
   clear Of
   rintro vr O' ⟨N,rfl,t9,rfl,rfl,SB⟩
   refine⟨Hv _ (by exact Sub.rf),?_⟩
   refine eM (O':=([ak t9.b t9.c 64 2 (gW t9.qs),ak yb yc 3 1 (ints ys),ak qk oK 66 1 (sZ us),cM iv (fun n:Nat=>Value.int .i64 (n:Int)) rk ((ms.map mE).zipIdx),ak s7 jV 3 1 (bn (ms.map Prod.snd)),ak nb nc 22 1 (bW q7),oI z2 34 [(vI 0),(vI 0),dM,nS],oI zM 62 [(vI d.vars),(vI d.ae),(.slice sy d.start.length iq),(.slice ey d.ao.length gl),(.slice ty d.aP.length iy),ii],ak fb fk 164 1 (fe (sR aa)),oI z1 26 [(vI b.vars),(vI b.ae),(.slice sb b.start.length sc),(.slice eb b.ao.length ec),(.slice tb b.aP.length tc)],oI z4 26 [(vI d.vars),(vI d.ae),(.slice sy d.start.length iq),(.slice ey d.ao.length gl),(.slice ty d.aP.length iy)],ak ey gl 106 4 (eX d.ao)]++((f_ 164 t9.qs)++(r3 64 164 us++bQ 3 q7)))) (by exact vY [ak t9.b t9.c 64 2 (gW t9.qs)] _ (f_ 164 t9.qs) (r3 64 164 us++bQ 3 q7)) ?_
   refine am F aC (am F (bX _) (am F (bX _) (am F (bX _) (am F dN (am F dN (am F dN ?_))))))
   refine cl ?_
   refine iD (fun ρ O=> ∃(zK:Nat),O=([oI zK 69 [(str (kP kk.1)),vN (if gm<rm∧gm<d.ae.toNat+1 then 2*((d.ae.toNat+1)-gm)+2 else if 0<rm∧rm<d.ae.toNat+1 then 2*((d.ae.toNat+1)-rm)+3 else 1)],ak t9.b t9.c 64 2 (gW t9.qs),ak yb yc 3 1 (ints ys),ak qk oK 66 1 (sZ us),cM iv (fun n:Nat=>Value.int .i64 (n:Int)) rk ((ms.map mE).zipIdx),ak s7 jV 3 1 (bn (ms.map Prod.snd)),ak nb nc 22 1 (bW q7),oI z2 34 [(vI 0),(vI 0),dM,nS],oI zM 62 [(vI d.vars),(vI d.ae),(.slice sy d.start.length iq),(.slice ey d.ao.length gl),(.slice ty d.aP.length iy),ii],ak fb fk 164 1 (fe (sR aa)),oI z1 26 [(vI b.vars),(vI b.ae),(.slice sb b.start.length sc),(.slice eb b.ao.length ec),(.slice tb b.aP.length tc)],oI z4 26 [(vI d.vars),(vI d.ae),(.slice sy d.start.length iq),(.slice ey d.ao.length gl),(.slice ty d.aP.length iy)],ak ey gl 106 4 (eX d.ao)]++((f_ 164 t9.qs)++(r3 64 164 us++bQ 3 q7)))∧cL [(0,(.agg #[(vI b.vars),(vI b.ae),(.slice sb b.start.length sc),(.slice eb b.ao.length ec),(.slice tb b.aP.length tc)])),(1,vI 300),(2,(.pointer (aD z1))),(4,(.pointer (aD z2))),(6,vN (cC b)),(7,(.pointer (aD z3))),(8,(.pointer (aD z4))),(9,(.pointer (aD zM))),(10,(.slice (aD z5) 1 1)),(11,(.map (some rk))),(12,(.slice qk ms.length oK)),(13,(.slice s7 ms.length jV)),(14,vN s),(15,(.slice yb ys.length yc)),(16,vN x),(17,(.slice t9.b t9.qs.length t9.c)),(18,vN rm),(19,vN gm),(20,(.pointer (aD zK))),(83,vN (2^b.vars.toNat)),(84,vN x)] ρ) ?_ ?_
   ·refine T.oH [oI z4 26 [(vI d.vars),(vI d.ae),(.slice sy d.start.length iq),(.slice ey d.ao.length gl),(.slice ty d.aP.length iy)]] 11 mixed F (by exact Sub.d (.d (.d (.d (.d (.d (.d (.d (.d (.d (.k .z))))))))))) (fun _ _ _ _ h=>h) ?_
    refine aO 0 F (by kernel_rfl) aC ?_
    refine aO 2 F (by kernel_rfl) (bY vn bt) ?_
    refine aO 3 F (by kernel_rfl) (bp 0 nw) ?_
    refine aO 4 F (by kernel_rfl) (bH (jJ F F (by omega)) (v':=vN (d.ae.toNat+1)) (av (Value.int .i64) (by omega))) ?_
    refine aO 5 F (by kernel_rfl) aC ?_
    refine aO 6 F (by kernel_rfl) aC ?_
    have E7:=fun(w1:World) (hI:Inv w ([ak t9.b t9.c 64 2 (gW t9.qs),ak yb yc 3 1 (ints ys),ak qk oK 66 1 (sZ us),cM iv (fun n:Nat=>Value.int .i64 (n:Int)) rk ((ms.map mE).zipIdx),ak s7 jV 3 1 (bn (ms.map Prod.snd)),ak nb nc 22 1 (bW q7),oI z2 34 [(vI 0),(vI 0),dM,nS],oI zM 62 [(vI d.vars),(vI d.ae),(.slice sy d.start.length iq),(.slice ey d.ao.length gl),(.slice ty d.aP.length iy),ii],ak fb fk 164 1 (fe (sR aa)),oI z1 26 [(vI b.vars),(vI b.ae),(.slice sb b.start.length sc),(.slice eb b.ao.length ec),(.slice tb b.aP.length tc)],oI z4 26 [(vI d.vars),(vI d.ae),(.slice sy d.start.length iq),(.slice ey d.ao.length gl),(.slice ty d.aP.length iy)],ak ey gl 106 4 (eX d.ao)]++((f_ 164 t9.qs)++(r3 64 164 us++bQ 3 q7))) w1)=>(haveI:=j6 hI;(by
     have h9:=NG w1 t9.b t9.c t9.qs (hI.X3 (t:=t9) (V:=64) (U:=164) (fun x9 h9=>by
      rcases List.mem_cons.1 h9 with rfl|h9
      ·exact bE (i:=0) F
      ·exact bl _ (a_ _ h9))) (Ad.of (N:=d.ae.toNat) (by omega) (SB▸GR)) (Og Mg (SB▸GR)) (E8 Mg (SB▸GR))
     rw[SB]at h9;exact h9))
    refine aZ [1,9] (by kernel_rfl) F ⟨⟨_,F,F,dV Od (aK E7) ?_⟩,⟨_,F,F,bO qh (fun zK=>⟨by exact Sub.d (.d (.d (.d (.d (.d (.d (.d (.d (.d (.d (.k .z))))))))))),?_⟩)⟩,trivial⟩
    ·clear E7
     rintro vr O' ⟨N,rfl,rfl,rfl⟩
     refine⟨by exact Sub.d (.d (.d (.d (.d (.d (.d (.d (.d (.d (.k .z)))))))))),?_⟩
     have wg:=fun(w1:World) (hI:Inv w ([ak t9.b t9.c 64 2 (gW t9.qs),ak yb yc 3 1 (ints ys),ak qk oK 66 1 (sZ us),cM iv (fun n:Nat=>Value.int .i64 (n:Int)) rk ((ms.map mE).zipIdx),ak s7 jV 3 1 (bn (ms.map Prod.snd)),ak nb nc 22 1 (bW q7),oI z2 34 [(vI 0),(vI 0),dM,nS],oI zM 62 [(vI d.vars),(vI d.ae),(.slice sy d.start.length iq),(.slice ey d.ao.length gl),(.slice ty d.aP.length iy),ii],ak fb fk 164 1 (fe (sR aa)),oI z1 26 [(vI b.vars),(vI b.ae),(.slice sb b.start.length sc),(.slice eb b.ao.length ec),(.slice tb b.aP.length tc)],oI z4 26 [(vI d.vars),(vI d.ae),(.slice sy d.start.length iq),(.slice ey d.ao.length gl),(.slice ty d.aP.length iy)],ak ey gl 106 4 (eX d.ao)]++((f_ 164 t9.qs)++(r3 64 164 us++bQ 3 q7))) w1)=>(haveI:=j6 hI;(NE w1 (d.ae.toNat+1) rm gm (by omega)))
     refine aZ [7,9] (by kernel_rfl) F ⟨⟨_,F,F,dV Oh (aK wg) ?_⟩,⟨_,F,F,bO qh (fun zK=>⟨by exact Sub.d (.d (.d (.d (.d (.d (.d (.d (.d (.d (.d (.k .z))))))))))),?_⟩)⟩,trivial⟩
     ·clear wg
      rintro vr O' ⟨N,rfl,rfl,rfl⟩
      refine⟨by exact Sub.d (.d (.d (.d (.d (.d (.d (.d (.d (.d (.k .z)))))))))),?_⟩
      refine aO 8 F (by kernel_rfl) (dy [(str (kP kk.1)),vN (if gm<rm∧gm<d.ae.toNat+1 then 2*((d.ae.toNat+1)-gm)+2 else if 0<rm∧rm<d.ae.toNat+1 then 2*((d.ae.toNat+1)-rm)+3 else 1)] CA qh (by kernel_rfl)) ?_
      refine aZ [9] (by kernel_rfl) F ⟨⟨_,F,F,bO qh (fun zK=>⟨by exact Sub.d (.d (.d (.d (.d (.d (.d (.d (.d (.d (.d (.k .z))))))))))),?_⟩)⟩,trivial⟩
      refine aZ [10] (by kernel_rfl) F ⟨⟨_,F,F,cE [(str (kP kk.1)),vN (if gm<rm∧gm<d.ae.toNat+1 then 2*((d.ae.toNat+1)-gm)+2 else if 0<rm∧rm<d.ae.toNat+1 then 2*((d.ae.toNat+1)-rm)+3 else 1)] 0 qh ⟨by exact Sub.d (.d (.d (.d (.d (.d (.d (.d (.d (.d (.d (.k .z))))))))))),?_⟩ F F F F⟩,trivial⟩
      exact dB (by kernel_rfl) ⟨zK,F,(.of F)⟩ (by exact Sub.rf)
     have wg:=fun(w1:World) (hI:Inv w ([oI zK 69 [(str []),(vI 0)],ak t9.b t9.c 64 2 (gW t9.qs),ak yb yc 3 1 (ints ys),ak qk oK 66 1 (sZ us),cM iv (fun n:Nat=>Value.int .i64 (n:Int)) rk ((ms.map mE).zipIdx),ak s7 jV 3 1 (bn (ms.map Prod.snd)),ak nb nc 22 1 (bW q7),oI z2 34 [(vI 0),(vI 0),dM,nS],oI zM 62 [(vI d.vars),(vI d.ae),(.slice sy d.start.length iq),(.slice ey d.ao.length gl),(.slice ty d.aP.length iy),ii],ak fb fk 164 1 (fe (sR aa)),oI z1 26 [(vI b.vars),(vI b.ae),(.slice sb b.start.length sc),(.slice eb b.ao.length ec),(.slice tb b.aP.length tc)],oI z4 26 [(vI d.vars),(vI d.ae),(.slice sy d.start.length iq),(.slice ey d.ao.length gl),(.slice ty d.aP.length iy)],ak ey gl 106 4 (eX d.ao)]++((f_ 164 t9.qs)++(r3 64 164 us++bQ 3 q7))) w1)=>(haveI:=j6 hI;(NE w1 (d.ae.toNat+1) rm gm (by omega)))
     refine aZ [7] (by kernel_rfl) F ⟨⟨_,F,F,dV Oh (aK wg) ?_⟩,trivial⟩
     clear wg
     rintro vr O' ⟨N,rfl,rfl,rfl⟩
     refine⟨by exact Sub.d (.d (.d (.d (.d (.d (.d (.d (.d (.d (.d (.k .z))))))))))),?_⟩
     refine aO 8 F (by kernel_rfl) (dy [(str (kP kk.1)),vN (if gm<rm∧gm<d.ae.toNat+1 then 2*((d.ae.toNat+1)-gm)+2 else if 0<rm∧rm<d.ae.toNat+1 then 2*((d.ae.toNat+1)-rm)+3 else 1)] CA qh (by kernel_rfl)) ?_
     refine aZ [10] (by kernel_rfl) F ⟨⟨_,F,F,cE [(str (kP kk.1)),vN (if gm<rm∧gm<d.ae.toNat+1 then 2*((d.ae.toNat+1)-gm)+2 else if 0<rm∧rm<d.ae.toNat+1 then 2*((d.ae.toNat+1)-rm)+3 else 1)] 0 qh ⟨by exact Sub.d (.d (.d (.d (.d (.d (.d (.d (.d (.d (.d (.k .z))))))))))),?_⟩ F F F F⟩,trivial⟩
     exact dB (by kernel_rfl) ⟨zK,F,(.of F)⟩ (by exact Sub.rf)
    have E7:=fun(w1:World) (hI:Inv w ([oI zK 69 [(str []),(vI 0)],ak t9.b t9.c 64 2 (gW t9.qs),ak yb yc 3 1 (ints ys),ak qk oK 66 1 (sZ us),cM iv (fun n:Nat=>Value.int .i64 (n:Int)) rk ((ms.map mE).zipIdx),ak s7 jV 3 1 (bn (ms.map Prod.snd)),ak nb nc 22 1 (bW q7),oI z2 34 [(vI 0),(vI 0),dM,nS],oI zM 62 [(vI d.vars),(vI d.ae),(.slice sy d.start.length iq),(.slice ey d.ao.length gl),(.slice ty d.aP.length iy),ii],ak fb fk 164 1 (fe (sR aa)),oI z1 26 [(vI b.vars),(vI b.ae),(.slice sb b.start.length sc),(.slice eb b.ao.length ec),(.slice tb b.aP.length tc)],oI z4 26 [(vI d.vars),(vI d.ae),(.slice sy d.start.length iq),(.slice ey d.ao.length gl),(.slice ty d.aP.length iy)],ak ey gl 106 4 (eX d.ao)]++((f_ 164 t9.qs)++(r3 64 164 us++bQ 3 q7))) w1)=>(haveI:=j6 hI;(by
     have h9:=NG w1 t9.b t9.c t9.qs (hI.X3 (t:=t9) (V:=64) (U:=164) (fun x9 h9=>by
      rcases List.mem_cons.1 h9 with rfl|h9
      ·exact bE (i:=1) F
      ·exact bl _ (a_ _ h9))) (Ad.of (N:=d.ae.toNat) (by omega) (SB▸GR)) (Og Mg (SB▸GR)) (E8 Mg (SB▸GR))
     rw[SB]at h9;exact h9))
    refine aZ [1] (by kernel_rfl) F ⟨⟨_,F,F,dV Od (aK E7) ?_⟩,trivial⟩
    clear E7
    rintro vr O' ⟨N,rfl,rfl,rfl⟩
    refine⟨by exact Sub.d (.d (.d (.d (.d (.d (.d (.d (.d (.d (.d (.k .z))))))))))),?_⟩
    have wg:=fun(w1:World) (hI:Inv w ([oI zK 69 [(str []),(vI 0)],ak t9.b t9.c 64 2 (gW t9.qs),ak yb yc 3 1 (ints ys),ak qk oK 66 1 (sZ us),cM iv (fun n:Nat=>Value.int .i64 (n:Int)) rk ((ms.map mE).zipIdx),ak s7 jV 3 1 (bn (ms.map Prod.snd)),ak nb nc 22 1 (bW q7),oI z2 34 [(vI 0),(vI 0),dM,nS],oI zM 62 [(vI d.vars),(vI d.ae),(.slice sy d.start.length iq),(.slice ey d.ao.length gl),(.slice ty d.aP.length iy),ii],ak fb fk 164 1 (fe (sR aa)),oI z1 26 [(vI b.vars),(vI b.ae),(.slice sb b.start.length sc),(.slice eb b.ao.length ec),(.slice tb b.aP.length tc)],oI z4 26 [(vI d.vars),(vI d.ae),(.slice sy d.start.length iq),(.slice ey d.ao.length gl),(.slice ty d.aP.length iy)],ak ey gl 106 4 (eX d.ao)]++((f_ 164 t9.qs)++(r3 64 164 us++bQ 3 q7))) w1)=>(haveI:=j6 hI;(NE w1 (d.ae.toNat+1) rm gm (by omega)))
    refine aZ [7] (by kernel_rfl) F ⟨⟨_,F,F,dV Oh (aK wg) ?_⟩,trivial⟩
    clear wg
    rintro vr O' ⟨N,rfl,rfl,rfl⟩
    refine⟨by exact Sub.d (.d (.d (.d (.d (.d (.d (.d (.d (.d (.d (.k .z))))))))))),?_⟩
    refine aO 8 F (by kernel_rfl) (dy [(str (kP kk.1)),vN (if gm<rm∧gm<d.ae.toNat+1 then 2*((d.ae.toNat+1)-gm)+2 else if 0<rm∧rm<d.ae.toNat+1 then 2*((d.ae.toNat+1)-rm)+3 else 1)] CA qh (by kernel_rfl)) ?_
    refine aZ [10] (by kernel_rfl) F ⟨⟨_,F,F,cE [(str (kP kk.1)),vN (if gm<rm∧gm<d.ae.toNat+1 then 2*((d.ae.toNat+1)-gm)+2 else if 0<rm∧rm<d.ae.toNat+1 then 2*((d.ae.toNat+1)-rm)+3 else 1)] 0 qh ⟨by exact Sub.d (.d (.d (.d (.d (.d (.d (.d (.d (.d (.d (.k .z))))))))))),?_⟩ F F F F⟩,trivial⟩
    exact dB (by kernel_rfl) ⟨zK,F,(.of F)⟩ (by exact Sub.rf)
   rintro ρ O ⟨zK,rfl,hH⟩
   obtain⟨fy,rfl⟩:=hH.elim
   clear hH
   refine iD (fun ρ O=>Sub ([oI zK 69 [(str (kP kk.1)),vN kk.2],ak t9.b t9.c 64 2 (gW t9.qs),ak yb yc 3 1 (ints ys),ak qk oK 66 1 (sZ us),cM iv (fun n:Nat=>Value.int .i64 (n:Int)) rk ((ms.map mE).zipIdx),ak s7 jV 3 1 (bn (ms.map Prod.snd)),ak nb nc 22 1 (bW q7),oI z2 34 [(vI 0),(vI 0),dM,nS],oI zM 62 [(vI d.vars),(vI d.ae),(.slice sy d.start.length iq),(.slice ey d.ao.length gl),(.slice ty d.aP.length iy),ii],ak fb fk 164 1 (fe (sR aa)),oI z1 26 [(vI b.vars),(vI b.ae),(.slice sb b.start.length sc),(.slice eb b.ao.length ec),(.slice tb b.aP.length tc)],oI z4 26 [(vI d.vars),(vI d.ae),(.slice sy d.start.length iq),(.slice ey d.ao.length gl),(.slice ty d.aP.length iy)],ak ey gl 106 4 (eX d.ao)]++((f_ 164 t9.qs)++(r3 64 164 us++bQ 3 q7))) O∧cL [(0,(.agg #[(vI b.vars),(vI b.ae),(.slice sb b.start.length sc),(.slice eb b.ao.length ec),(.slice tb b.aP.length tc)])),(1,vI 300),(2,(.pointer (aD z1))),(4,(.pointer (aD z2))),(6,vN (cC b)),(7,(.pointer (aD z3))),(8,(.pointer (aD z4))),(9,(.pointer (aD zM))),(10,(.slice (aD z5) 1 1)),(11,(.map (some rk))),(12,(.slice qk ms.length oK)),(13,(.slice s7 ms.length jV)),(14,vN s),(15,(.slice yb ys.length yc)),(16,vN x),(17,(.slice t9.b t9.qs.length t9.c)),(18,vN rm),(19,vN gm),(20,(.pointer (aD zK))),(83,vN (2^b.vars.toNat)),(84,vN x)] ρ) ?_ ?_
   ·refine ba ?_
    refine aJ (aQ (az (b8 s uj qg F F (bU 3) Zz (by rw[ag];omega)) (ad (dR gr F F (bU 3) (Vo D9)) (ad (bV gr) (ai (bI (aQ ?_)))))))
    by_cases SC:((rm:Nat):Int)=((us[s].qs.length:Nat):Int)
    ·refine ad (cm en SC) ?_
     refine aQ (ax aC (ax aC ?_))
     by_cases E9:((gm:Nat):Int)=((us[s].qs.length:Nat):Int)
     ·refine ax (cm en E9) ?_
      refine bF bR ?_
      refine cJ ?_
      refine aJ (ad (bY N_ bt) (au (cE [(vI 1)] 0 bt ?_)))
      refine TO.nl ?_
      exact⟨(by rw[show kk.2=1 from by rw[hp2,aA ⟨by omega,by omega⟩]];exact Sub.rf),(.of F)⟩
     refine ax (cD en E9) (bF bR (cK (aE ?_)))
     exact⟨(by rw[show kk.2=(if gm<rm∧gm<d.ae.toNat+1 then 2*((d.ae.toNat+1)-gm)+2 else if 0<rm∧rm<d.ae.toNat+1 then 2*((d.ae.toNat+1)-rm)+3 else 1)from by rw[hp2,ar (fun h9=>by obtain⟨h8,h7⟩:=h9;first|exact SC (by omega)|exact E9 (by omega))]];exact Sub.rf),(.of F)⟩
    refine ad (cD en SC) (aQ (dt (dj (bF ca (cK (aE ?_))))))
    exact⟨(by rw[show kk.2=(if gm<rm∧gm<d.ae.toNat+1 then 2*((d.ae.toNat+1)-gm)+2 else if 0<rm∧rm<d.ae.toNat+1 then 2*((d.ae.toNat+1)-rm)+3 else 1)from by rw[hp2,ar (fun h9=>by obtain⟨h8,h7⟩:=h9;first|exact SC (by omega)|exact E9 (by omega))]];exact Sub.rf),(.of F)⟩
   rintro ρ O ⟨hS,hH⟩
   obtain⟨fy,rfl⟩:=hH.elim
   clear hH
   refine cV hS ?_
   refine bP (eg 0 N_ qh) (ad (bH (pL (K:=iv) (V:=(fun n:Nat=>Value.int .i64 (n:Int))) (a:=(mE kk)) X1 bt (oz N8) F F (mG 4)) (v':=.tuple #[vN (if kk∈ms then ix kk ms else 0),.bool (decide (kk∈ms))]) (by rw[SD (N:=d.ae.toNat) (by omega) hJ.gd GR];by_cases h9:kk∈ms<;>simp[h9])) (az (bX _) (ad (bX _) (bh (bh (bJ (aQ (bF gM (aH (p:= ¬kk∈ms) (av Value.bool (by by_cases h9:kk∈ms<;>simp[h9])) (fun hc=>?_) (fun hc=>?_))))))))))
   ·have J7: ¬kk∈ms:=hc
    refine ba (bP (bV uj) (aQ (bF en (aH F (fun hc=>?_) (fun hc=>?_)))))
    ·have ahl:ms.length=300:=by omega
     refine ba (T.dH 22 1 (T.dH 3 1 ?_))
     refine aJ (ad (dy _ nz cQ F) (au (cE [(vI 0),(vI 0),nS,nS] 9 cQ ?_)))
     refine bm ?_
     refine dT (vI 10) (i:=9) results7 gQ F cQ F F F F ?_
     exact⟨[ak none 0 22 1 [],ak none 0 3 1 []]++bQ 3 [],(by exact Sub.k (.k .z)),⟨0,0,[],[]⟩,none,none,0,0,[],10,F,F,F,fun h9=>absurd h9 (by omega)⟩
    have ahm: ¬ms.length=300:=by omega
    have My:ms.length<300:=by omega
    refine aE (bP (bV uj) (ai (bP (eg 0 N_ qh) (aQ (au (oY (a:=(mE kk)) (v:=ms.length) 4 X1 (oz N8) F F F F (by rw[s8];exact fun h9=>J7 ((HM (N:=d.ae.toNat) (by omega) hJ.gd GR).1 h9)) ?_))))))
    refine TO.nl ?_
    let iC:List Value:=[(.slice t9.b t9.qs.length t9.c)]
    refine EI (fun ρ O=> ∃(kS qz:Option Addr) (nQ qA:Nat),O=([oI zK 69 [(str (kP kk.1)),vN kk.2],ak t9.b t9.c 64 2 (gW t9.qs),ak yb yc 3 1 (ints ys),ak kS nQ 66 1 ((sZ us)++iC),cM iv (fun n:Nat=>Value.int .i64 (n:Int)) rk (((ms.map mE).zipIdx)++[((mE kk),ms.length)]),ak qz qA 3 1 ((bn (ms.map Prod.snd))++[vN kk.2]),ak nb nc 22 1 (bW q7),oI z2 34 [(vI 0),(vI 0),dM,nS],oI zM 62 [(vI d.vars),(vI d.ae),(.slice sy d.start.length iq),(.slice ey d.ao.length gl),(.slice ty d.aP.length iy),ii],ak fb fk 164 1 (fe (sR aa)),oI z1 26 [(vI b.vars),(vI b.ae),(.slice sb b.start.length sc),(.slice eb b.ao.length ec),(.slice tb b.aP.length tc)],oI z4 26 [(vI d.vars),(vI d.ae),(.slice sy d.start.length iq),(.slice ey d.ao.length gl),(.slice ty d.aP.length iy)],ak ey gl 106 4 (eX d.ao)]++((f_ 164 t9.qs)++(r3 64 164 us++bQ 3 q7)))∧cL [(0,(.agg #[(vI b.vars),(vI b.ae),(.slice sb b.start.length sc),(.slice eb b.ao.length ec),(.slice tb b.aP.length tc)])),(1,vI 300),(2,(.pointer (aD z1))),(4,(.pointer (aD z2))),(6,vN (cC b)),(7,(.pointer (aD z3))),(8,(.pointer (aD z4))),(9,(.pointer (aD zM))),(10,(.slice (aD z5) 1 1)),(11,(.map (some rk))),(12,(.slice kS (ms.length+1) nQ)),(13,(.slice qz (ms.length+1) qA)),(14,vN s),(15,(.slice yb ys.length yc)),(16,vN x),(17,(.slice t9.b t9.qs.length t9.c)),(18,vN rm),(19,vN gm),(20,(.pointer (aD zK))),(22,vI (ms.length:Int)),(23,.bool (decide (kk∈ms))),(83,vN (2^b.vars.toNat)),(84,vN x)] ρ) ?_ ?_
    ·refine T.oH [oI zK 69 [(str (kP kk.1)),vN kk.2]] 11 mixed F (by exact Sub.k .z) (fun _ _ _ _ h=>h) ?_
     refine aO 0 F (by kernel_rfl) aC ?_
     refine aO 1 F (by kernel_rfl) aC ?_
     refine aO 4 F (by kernel_rfl) aC ?_
     refine aO 5 F (by kernel_rfl) (bY N_ bt) ?_
     refine aO 6 F (by kernel_rfl) (bp 0 nw) ?_
     refine aZ [2,7] (by kernel_rfl) F ⟨⟨_,F,F,dv (v:=(.slice t9.b t9.qs.length t9.c)) uj qg F F F (fun tA=>⟨by exact Sub.d (.k .z),?_⟩)⟩,⟨_,F,F,dv (v:=vN kk.2) ew bt F F F (fun tB=>⟨by exact Sub.d (.k .z),?_⟩)⟩,trivial⟩
     ·refine aZ [3,7] (by kernel_rfl) F ⟨⟨_,F,F,dp 4 uj uj qg F F F F (by rw[ag];omega) (by decide) (Src.row (j:=0) F (by simp)) (by simp[fL]) (by omega) (by decide) (by decide) (fun kS nQ=>⟨by exact Sub.d (.k .z),?_⟩)⟩,⟨_,F,F,dv (v:=vN kk.2) ew bt F F F (fun tB=>⟨by exact Sub.d (.d (.k .z)),?_⟩)⟩,trivial⟩
      ·refine aZ [7] (by kernel_rfl) F ⟨⟨_,F,F,dv (v:=vN kk.2) ew bt F F F (fun tB=>⟨by exact Sub.d (.d (.k .z)),?_⟩)⟩,trivial⟩
       refine aZ [8] (by kernel_rfl) F ⟨⟨_,F,F,dp 7 ew ew bt F F F F (by rw[ag,ag];omega) (by decide) (Src.row (j:=0) F (by simp)) (by simp[fL]) (by omega) (by decide) (by decide) (fun qz qA=>⟨by exact Sub.d (.d (.k .z)),?_⟩)⟩,trivial⟩
       refine aO 9 F (by kernel_rfl) dN ?_
       refine aO 10 F (by kernel_rfl) dN ?_
       exact dB (by kernel_rfl) ⟨kS,qz,nQ,qA,F,(.of F)⟩ (by exact Sub.d (.d (.k (.k (.k (.k (.k (.k (.k (.k (.k (.k (.k (.k (.k .rf)))))))))))))))
      refine aZ [3] (by kernel_rfl) F ⟨⟨_,F,F,dp 5 uj uj qg F F F F (by rw[ag];omega) (by decide) (Src.row (j:=1) F (by simp)) (by simp[fL]) (by omega) (by decide) (by decide) (fun kS nQ=>⟨by exact Sub.d (.d (.k .z)),?_⟩)⟩,trivial⟩
      refine aZ [8] (by kernel_rfl) F ⟨⟨_,F,F,dp 7 ew ew bt F F F F (by rw[ag,ag];omega) (by decide) (Src.row (j:=0) F (by simp)) (by simp[fL]) (by omega) (by decide) (by decide) (fun qz qA=>⟨by exact Sub.d (.d (.k .z)),?_⟩)⟩,trivial⟩
      refine aO 9 F (by kernel_rfl) dN ?_
      refine aO 10 F (by kernel_rfl) dN ?_
      exact dB (by kernel_rfl) ⟨kS,qz,nQ,qA,F,(.of F)⟩ (by exact Sub.d (.d (.k (.k (.k (.k (.k (.k (.k (.k (.k (.k (.k (.k (.k .rf)))))))))))))))
     refine aZ [2] (by kernel_rfl) F ⟨⟨_,F,F,dv (v:=(.slice t9.b t9.qs.length t9.c)) uj qg F F F (fun tA=>⟨by exact Sub.d (.d (.k .z)),?_⟩)⟩,trivial⟩
     refine aZ [3] (by kernel_rfl) F ⟨⟨_,F,F,dp 5 uj uj qg F F F F (by rw[ag];omega) (by decide) (Src.row (j:=0) F (by simp)) (by simp[fL]) (by omega) (by decide) (by decide) (fun kS nQ=>⟨by exact Sub.d (.d (.k .z)),?_⟩)⟩,trivial⟩
     refine aZ [8] (by kernel_rfl) F ⟨⟨_,F,F,dp 7 ew ew bt F F F F (by rw[ag,ag];omega) (by decide) (Src.row (j:=1) F (by simp)) (by simp[fL]) (by omega) (by decide) (by decide) (fun qz qA=>⟨by exact Sub.d (.d (.k .z)),?_⟩)⟩,trivial⟩
     refine aO 9 F (by kernel_rfl) dN ?_
     refine aO 10 F (by kernel_rfl) dN ?_
     exact dB (by kernel_rfl) ⟨kS,qz,nQ,qA,F,(.of F)⟩ (by exact Sub.d (.d (.k (.k (.k (.k (.k (.k (.k (.k (.k (.k (.k (.k (.k .rf)))))))))))))))
    rintro ρ O ⟨kS,qz,nQ,qA,rfl,hH⟩
    obtain⟨fy,rfl⟩:=hH.elim
    clear hH
    refine cV (O':=([ak t9.b t9.c 64 2 (gW t9.qs),ak yb yc 3 1 (ints ys),ak kS nQ 66 1 ((sZ us)++iC),cM iv (fun n:Nat=>Value.int .i64 (n:Int)) rk (((ms.map mE).zipIdx)++[((mE kk),ms.length)]),ak qz qA 3 1 ((bn (ms.map Prod.snd))++[vN kk.2]),ak nb nc 22 1 (bW q7),oI z2 34 [(vI 0),(vI 0),dM,nS],oI zM 62 [(vI d.vars),(vI d.ae),(.slice sy d.start.length iq),(.slice ey d.ao.length gl),(.slice ty d.aP.length iy),ii],ak fb fk 164 1 (fe (sR aa)),oI z1 26 [(vI b.vars),(vI b.ae),(.slice sb b.start.length sc),(.slice eb b.ao.length ec),(.slice tb b.aP.length tc)],oI z4 26 [(vI d.vars),(vI d.ae),(.slice sy d.start.length iq),(.slice ey d.ao.length gl),(.slice ty d.aP.length iy)],ak ey gl 106 4 (eX d.ao)]++(f_ 164 t9.qs++(r3 64 164 us++bQ 3 q7)))) (by exact Sub.d (.k (.k (.k (.k (.k (.k (.k (.k (.k (.k (.k (.k .rf))))))))))))) ?_
    refine cV (O':=([ak yb yc 3 1 (ints ys),ak kS nQ 66 1 ((sZ us)++iC),cM iv (fun n:Nat=>Value.int .i64 (n:Int)) rk (((ms.map mE).zipIdx)++[((mE kk),ms.length)]),ak qz qA 3 1 ((bn (ms.map Prod.snd))++[vN kk.2]),ak nb nc 22 1 (bW q7),oI z2 34 [(vI 0),(vI 0),dM,nS],oI zM 62 [(vI d.vars),(vI d.ae),(.slice sy d.start.length iq),(.slice ey d.ao.length gl),(.slice ty d.aP.length iy),ii],ak fb fk 164 1 (fe (sR aa)),oI z1 26 [(vI b.vars),(vI b.ae),(.slice sb b.start.length sc),(.slice eb b.ao.length ec),(.slice tb b.aP.length tc)],oI z4 26 [(vI d.vars),(vI d.ae),(.slice sy d.start.length iq),(.slice ey d.ao.length gl),(.slice ty d.aP.length iy)],ak ey gl 106 4 (eX d.ao)]++(r3 64 164 (us++[t9])++bQ 3 q7))) (by exact SE 64 164 us t9 [ak yb yc 3 1 (ints ys),ak kS nQ 66 1 ((sZ us)++iC),cM iv (fun n:Nat=>Value.int .i64 (n:Int)) rk (((ms.map mE).zipIdx)++[((mE kk),ms.length)]),ak qz qA 3 1 ((bn (ms.map Prod.snd))++[vN kk.2]),ak nb nc 22 1 (bW q7),oI z2 34 [(vI 0),(vI 0),dM,nS],oI zM 62 [(vI d.vars),(vI d.ae),(.slice sy d.start.length iq),(.slice ey d.ao.length gl),(.slice ty d.aP.length iy),ii],ak fb fk 164 1 (fe (sR aa)),oI z1 26 [(vI b.vars),(vI b.ae),(.slice sb b.start.length sc),(.slice eb b.ao.length ec),(.slice tb b.aP.length tc)],oI z4 26 [(vI d.vars),(vI d.ae),(.slice sy d.start.length iq),(.slice ey d.ao.length gl),(.slice ty d.aP.length iy)],ak ey gl 106 4 (eX d.ao)] (bQ 3 q7)) ?_
    refine cV (O':=([ak yb yc 3 1 (ints ys),ak kS nQ 66 1 (sZ (us++[t9])),cM iv (fun n:Nat=>Value.int .i64 (n:Int)) rk (((ms++[kk]).map mE).zipIdx),ak qz qA 3 1 (bn ((ms++[kk]).map Prod.snd)),ak nb nc 22 1 (bW q7),oI z2 34 [(vI 0),(vI 0),dM,nS],oI zM 62 [(vI d.vars),(vI d.ae),(.slice sy d.start.length iq),(.slice ey d.ao.length gl),(.slice ty d.aP.length iy),ii],ak fb fk 164 1 (fe (sR aa)),oI z1 26 [(vI b.vars),(vI b.ae),(.slice sb b.start.length sc),(.slice eb b.ao.length ec),(.slice tb b.aP.length tc)],oI z4 26 [(vI d.vars),(vI d.ae),(.slice sy d.start.length iq),(.slice ey d.ao.length gl),(.slice ty d.aP.length iy)],ak ey gl 106 4 (eX d.ao)]++(r3 64 164 (us++[t9])++bQ 3 q7))) (by rw[Oi,SF,show(ms++[kk]).map Prod.snd=ms.map Prod.snd++[kk.2]from aL,KQ];exact Sub.rf) ?_
    refine aJ (dr (au (dv (v:=vN ms.length) ew bt F F F (fun z9=>?_))))
    refine au (dp 1 ew ew bt F F F F (by rw[ag];omega) (by decide) (Src.row (j:=0) F (by simp)) (by simp[fL]) (by omega) (by decide) (by decide) (fun iF yI=>?_))
    refine ai (aJ (ad (bK (b:=1) x F F (by omega)) (aS ?_)))
    have Ef:=hJ.new (by rw[yG];exact J7) (by rw[yG];exact GR) (t:=t9) (by rw[yG];exact SB) My
    rw[yG]at Ef
    exact⟨x+1,by omega,([ak iF yI 3 1 ((ints ys)++[vN ms.length]),ak kS nQ 66 1 (sZ (us++[t9])),cM iv (fun n:Nat=>Value.int .i64 (n:Int)) rk (((ms++[kk]).map mE).zipIdx),ak qz qA 3 1 (bn ((ms++[kk]).map Prod.snd)),ak nb nc 22 1 (bW q7),oI z2 34 [(vI 0),(vI 0),dM,nS],oI zM 62 [(vI d.vars),(vI d.ae),(.slice sy d.start.length iq),(.slice ey d.ao.length gl),(.slice ty d.aP.length iy),ii],ak fb fk 164 1 (fe (sR aa)),oI z1 26 [(vI b.vars),(vI b.ae),(.slice sb b.start.length sc),(.slice eb b.ao.length ec),(.slice tb b.aP.length tc)],oI z4 26 [(vI d.vars),(vI d.ae),(.slice sy d.start.length iq),(.slice ey d.ao.length gl),(.slice ty d.aP.length iy)],ak ey gl 106 4 (eX d.ao)]++(r3 64 164 (us++[t9])++bQ 3 q7)),(by exact Sub.d (.k (.k (.k (.k (.k (.k (.k (.k (.k (.k (.k .rf)))))))))))),iF,kS,qz,yI,nQ,qA,ys++[((ms.length:Nat):Int)],ms++[kk],us++[t9],by rw[show ints (ys++[((ms.length:Nat):Int)])=ints ys++[vN ms.length]from aL],by omega,Ef,⟨F,F,F,F,F,F,F,F,F,F,(av (fun n9=>Value.slice kS n9 nQ) (@aI _ ms [kk]).symm),(av (fun n9=>Value.slice qz n9 qA) (@aI _ ms [kk]).symm),F,(av (fun n9=>Value.slice iF n9 yI) (@aI _ ys [((ms.length:Nat):Int)]).symm),F,F,trivial⟩⟩
   have ZF:kk∈ms:=Classical.not_not.1 hc
   refine aE ?_
   refine cV (O':=[ak yb yc 3 1 (ints ys),ak qk oK 66 1 (sZ us),cM iv (fun n:Nat=>Value.int .i64 (n:Int)) rk ((ms.map mE).zipIdx),ak s7 jV 3 1 (bn (ms.map Prod.snd)),ak nb nc 22 1 (bW q7),oI z2 34 [(vI 0),(vI 0),dM,nS],oI zM 62 [(vI d.vars),(vI d.ae),(.slice sy d.start.length iq),(.slice ey d.ao.length gl),(.slice ty d.aP.length iy),ii],ak fb fk 164 1 (fe (sR aa)),oI z1 26 [(vI b.vars),(vI b.ae),(.slice sb b.start.length sc),(.slice eb b.ao.length ec),(.slice tb b.aP.length tc)],oI z4 26 [(vI d.vars),(vI d.ae),(.slice sy d.start.length iq),(.slice ey d.ao.length gl),(.slice ty d.aP.length iy)],ak ey gl 106 4 (eX d.ao)]++(r3 64 164 us++bQ 3 q7)) (KR [ak yb yc 3 1 (ints ys),ak qk oK 66 1 (sZ us),cM iv (fun n:Nat=>Value.int .i64 (n:Int)) rk ((ms.map mE).zipIdx),ak s7 jV 3 1 (bn (ms.map Prod.snd)),ak nb nc 22 1 (bW q7),oI z2 34 [(vI 0),(vI 0),dM,nS],oI zM 62 [(vI d.vars),(vI d.ae),(.slice sy d.start.length iq),(.slice ey d.ao.length gl),(.slice ty d.aP.length iy),ii],ak fb fk 164 1 (fe (sR aa)),oI z1 26 [(vI b.vars),(vI b.ae),(.slice sb b.start.length sc),(.slice eb b.ao.length ec),(.slice tb b.aP.length tc)],oI z4 26 [(vI d.vars),(vI d.ae),(.slice sy d.start.length iq),(.slice ey d.ao.length gl),(.slice ty d.aP.length iy)],ak ey gl 106 4 (eX d.ao)] [oI zK 69 [(str (kP kk.1)),vN kk.2],ak t9.b t9.c 64 2 (gW t9.qs),ak yb yc 3 1 (ints ys),ak qk oK 66 1 (sZ us),cM iv (fun n:Nat=>Value.int .i64 (n:Int)) rk ((ms.map mE).zipIdx),ak s7 jV 3 1 (bn (ms.map Prod.snd)),ak nb nc 22 1 (bW q7),oI z2 34 [(vI 0),(vI 0),dM,nS],oI zM 62 [(vI d.vars),(vI d.ae),(.slice sy d.start.length iq),(.slice ey d.ao.length gl),(.slice ty d.aP.length iy),ii],ak fb fk 164 1 (fe (sR aa)),oI z1 26 [(vI b.vars),(vI b.ae),(.slice sb b.start.length sc),(.slice eb b.ao.length ec),(.slice tb b.aP.length tc)],oI z4 26 [(vI d.vars),(vI d.ae),(.slice sy d.start.length iq),(.slice ey d.ao.length gl),(.slice ty d.aP.length iy)],ak ey gl 106 4 (eX d.ao)] (f_ 164 t9.qs) (r3 64 164 us++bQ 3 q7) (by exact Sub.d (.d (.k (.k (.k (.k (.k (.k (.k (.k (.k (.k (.k .z)))))))))))))) ?_
   refine aJ (az (bH aC (v':=vN (ix kk ms)) (av (fun z:Nat=>Value.int .i64 (z:Int)) (aA ZF))) (au (dv (v:=vN (ix kk ms)) ew bt F F F (fun z12=>?_))))
   refine au (dp 1 ew ew bt F F F F (by rw[ag];omega) (by decide) (Src.row (j:=0) F (by simp)) (by simp[fL]) (by omega) (by decide) (by decide) (fun KJ KS=>?_))
   refine ai (aJ (ad (bK (b:=1) x F F (by omega)) (aS ?_)))
   have Ef:=hJ.lR (by rw[yG];exact ZF)
   rw[yG]at Ef
   exact⟨x+1,by omega,([ak KJ KS 3 1 ((ints ys)++[vN (ix kk ms)]),ak qk oK 66 1 (sZ us),cM iv (fun n:Nat=>Value.int .i64 (n:Int)) rk ((ms.map mE).zipIdx),ak s7 jV 3 1 (bn (ms.map Prod.snd)),ak nb nc 22 1 (bW q7),oI z2 34 [(vI 0),(vI 0),dM,nS],oI zM 62 [(vI d.vars),(vI d.ae),(.slice sy d.start.length iq),(.slice ey d.ao.length gl),(.slice ty d.aP.length iy),ii],ak fb fk 164 1 (fe (sR aa)),oI z1 26 [(vI b.vars),(vI b.ae),(.slice sb b.start.length sc),(.slice eb b.ao.length ec),(.slice tb b.aP.length tc)],oI z4 26 [(vI d.vars),(vI d.ae),(.slice sy d.start.length iq),(.slice ey d.ao.length gl),(.slice ty d.aP.length iy)],ak ey gl 106 4 (eX d.ao)]++(r3 64 164 us++bQ 3 q7)),(by exact Sub.d (.k (.k (.k (.k (.k (.k (.k (.k (.k (.k (.k .rf)))))))))))),KJ,qk,s7,KS,oK,jV,ys++[((ix kk ms:Nat):Int)],ms,us,by rw[show ints (ys++[((ix kk ms:Nat):Int)])=ints ys++[vN (ix kk ms)]from aL],by omega,Ef,⟨F,F,F,F,F,F,F,F,F,F,F,F,F,(av (fun n9=>Value.slice KJ n9 KS) (@aI _ ys [((ix kk ms:Nat):Int)]).symm),F,F,trivial⟩⟩
  have ajL: ¬x<(2^b.vars.toNat):=by omega
  have SG:x=(2^b.vars.toNat):=by omega
  rw[SG]at hJ
  have hDn:=hD.next hk hJ
  refine bA ?_
  refine aJ (ad (bY gQ dQ) (ad (bp 5 mi) (aQ (au (dv (v:=(.slice yb ys.length yc)) mi cf F F F (fun DH=>?_))))))
  refine au (dp 5 mi mi cf F F F F (by simp) (by decide) (Src.row (j:=0) F (by simp)) (by simp[fL]) (by omega) (by decide) (by decide) (fun Af CC=>?_))
  let gk:Value:=(.slice Af (q7.length+1) CC)
  refine ad (bY gQ dQ) (au (cE [gk] 6 dQ ?_))
  refine TO.nl ?_
  let fN:List Value:=[(.slice yb ys.length yc)]
  let kd:Value:=(.slice fb ((sR aa).length) ((sR aa).length))
  refine cV (O':=([ak yb yc 3 1 (ints ys),ak qk oK 66 1 (sZ us),cM iv (fun n:Nat=>Value.int .i64 (n:Int)) rk ((ms.map mE).zipIdx),ak s7 jV 3 1 (bn (ms.map Prod.snd)),ak Af CC 22 1 ((bW q7)++fN),oI z2 34 [(vI 0),(vI 0),gk,nS],oI zM 62 [(vI d.vars),(vI d.ae),(.slice sy d.start.length iq),(.slice ey d.ao.length gl),(.slice ty d.aP.length iy),kd],ak fb fk 164 1 (fe (sR aa)),oI z1 26 [(vI b.vars),(vI b.ae),(.slice sb b.start.length sc),(.slice eb b.ao.length ec),(.slice tb b.aP.length tc)],oI z4 26 [(vI d.vars),(vI d.ae),(.slice sy d.start.length iq),(.slice ey d.ao.length gl),(.slice ty d.aP.length iy)],ak ey gl 106 4 (eX d.ao)]++(r3 64 164 us++bQ 3 q7))) (by exact Sub.d (.k (.k (.k (.k (.k (.k (.k (.k (.k (.k (.k .rf)))))))))))) ?_
  refine cV (O':=([ak qk oK 66 1 (sZ us),cM iv (fun n:Nat=>Value.int .i64 (n:Int)) rk ((ms.map mE).zipIdx),ak s7 jV 3 1 (bn (ms.map Prod.snd)),ak Af CC 22 1 ((bW q7)++fN),oI z2 34 [(vI 0),(vI 0),gk,nS],oI zM 62 [(vI d.vars),(vI d.ae),(.slice sy d.start.length iq),(.slice ey d.ao.length gl),(.slice ty d.aP.length iy),kd],ak fb fk 164 1 (fe (sR aa)),oI z1 26 [(vI b.vars),(vI b.ae),(.slice sb b.start.length sc),(.slice eb b.ao.length ec),(.slice tb b.aP.length tc)],oI z4 26 [(vI d.vars),(vI d.ae),(.slice sy d.start.length iq),(.slice ey d.ao.length gl),(.slice ty d.aP.length iy)],ak ey gl 106 4 (eX d.ao)]++(r3 64 164 us++bQ 3 (q7++[(⟨yb,yc,ys⟩:Rec)])))) (by exact SH 3 q7 (⟨yb,yc,ys⟩:Rec) [ak qk oK 66 1 (sZ us),cM iv (fun n:Nat=>Value.int .i64 (n:Int)) rk ((ms.map mE).zipIdx),ak s7 jV 3 1 (bn (ms.map Prod.snd)),ak Af CC 22 1 ((bW q7)++fN),oI z2 34 [(vI 0),(vI 0),gk,nS],oI zM 62 [(vI d.vars),(vI d.ae),(.slice sy d.start.length iq),(.slice ey d.ao.length gl),(.slice ty d.aP.length iy),kd],ak fb fk 164 1 (fe (sR aa)),oI z1 26 [(vI b.vars),(vI b.ae),(.slice sb b.start.length sc),(.slice eb b.ao.length ec),(.slice tb b.aP.length tc)],oI z4 26 [(vI d.vars),(vI d.ae),(.slice sy d.start.length iq),(.slice ey d.ao.length gl),(.slice ty d.aP.length iy)],ak ey gl 106 4 (eX d.ao)] (r3 64 164 us)) ?_
  refine cV (O':=([ak qk oK 66 1 (sZ us),cM iv (fun n:Nat=>Value.int .i64 (n:Int)) rk ((ms.map mE).zipIdx),ak s7 jV 3 1 (bn (ms.map Prod.snd)),ak Af CC 22 1 (bW (q7++[(⟨yb,yc,ys⟩:Rec)])),oI z2 34 [(vI 0),(vI 0),(.slice Af ((q7++[(⟨yb,yc,ys⟩:Rec)]).length) CC),nS],oI zM 62 [(vI d.vars),(vI d.ae),(.slice sy d.start.length iq),(.slice ey d.ao.length gl),(.slice ty d.aP.length iy),kd],ak fb fk 164 1 (fe (sR aa)),oI z1 26 [(vI b.vars),(vI b.ae),(.slice sb b.start.length sc),(.slice eb b.ao.length ec),(.slice tb b.aP.length tc)],oI z4 26 [(vI d.vars),(vI d.ae),(.slice sy d.start.length iq),(.slice ey d.ao.length gl),(.slice ty d.aP.length iy)],ak ey gl 106 4 (eX d.ao)]++(r3 64 164 us++bQ 3 (q7++[(⟨yb,yc,ys⟩:Rec)])))) (by rw[KT,show(q7++[(⟨yb,yc,ys⟩:Rec)]).length=q7.length+1 from aI];exact Sub.rf) ?_
  refine aJ (az (bK (b:=1) s F F (by omega)) (ai ?_))
  exact⟨s+1,by omega,([ak qk oK 66 1 (sZ us),cM iv (fun n:Nat=>Value.int .i64 (n:Int)) rk ((ms.map mE).zipIdx),ak s7 jV 3 1 (bn (ms.map Prod.snd)),ak Af CC 22 1 (bW (q7++[(⟨yb,yc,ys⟩:Rec)])),oI z2 34 [(vI 0),(vI 0),(.slice Af ((q7++[(⟨yb,yc,ys⟩:Rec)]).length) CC),nS],oI zM 62 [(vI d.vars),(vI d.ae),(.slice sy d.start.length iq),(.slice ey d.ao.length gl),(.slice ty d.aP.length iy),kd],ak fb fk 164 1 (fe (sR aa)),oI z1 26 [(vI b.vars),(vI b.ae),(.slice sb b.start.length sc),(.slice eb b.ao.length ec),(.slice tb b.aP.length tc)],oI z4 26 [(vI d.vars),(vI d.ae),(.slice sy d.start.length iq),(.slice ey d.ao.length gl),(.slice ty d.aP.length iy)],ak ey gl 106 4 (eX d.ao)]++(r3 64 164 us++bQ 3 (q7++[(⟨yb,yc,ys⟩:Rec)]))),(by exact Sub.rf),qk,s7,Af,oK,jV,CC,ms,us,q7++[(⟨yb,yc,ys⟩:Rec)],F,by simp[tD],by rw[KU];exact hDn,(.of F)⟩
 have acI: ¬s<ks.length:=by omega
 have ahn:s=ks.length:=by have:=hD.ex.le;omega
 refine bA ?_
 refine ba ?_
 let gS:Value:=(.slice nb q7.length nc)
 refine cV (O':=([ak pb pc 3 1 (bn (ks.map Prod.snd)),ak nb nc 22 1 (bW q7),oI z2 34 [(vI 0),(vI 0),gS,nS],oI z1 26 [(vI b.vars),(vI b.ae),(.slice sb b.start.length sc),(.slice eb b.ao.length ec),(.slice tb b.aP.length tc)]]++(bQ 3 q7))) (fq ([ak Kh Ki 66 1 (sZ ts),cM iv (fun n:Nat=>Value.int .i64 (n:Int)) rk ((ks.map mE).zipIdx),oI zM 62 [(vI d.vars),(vI d.ae),(.slice sy d.start.length iq),(.slice ey d.ao.length gl),(.slice ty d.aP.length iy),(.slice fb ((sR aa).length) ((sR aa).length))],ak fb fk 164 1 (fe (sR aa)),oI z4 26 [(vI d.vars),(vI d.ae),(.slice sy d.start.length iq),(.slice ey d.ao.length gl),(.slice ty d.aP.length iy)],ak ey gl 106 4 (eX d.ao)]++r3 64 164 ts)) ?_
 obtain⟨cp,BS⟩: ∃z,(ks.map Prod.snd).map (sz (jv (ks.map Prod.snd)))=z:=⟨_,F⟩
 have nN:cp.length=ks.length:=by rw[←BS,ag,ag]
 have hkp:0<ks.length:=(List.getElem?_eq_some_iff.1 hD.ex.st).1
 refine aJ (aQ ?_)
 have Vp:=cZ.under (A:=[ak pb pc 3 1 (bn (ks.map Prod.snd))]) (B:=([ak nb nc 22 1 (bW q7),oI z2 34 [(vI 0),(vI 0),gS,nS],oI z1 26 [(vI b.vars),(vI b.ae),(.slice sb b.start.length sc),(.slice eb b.ao.length ec),(.slice tb b.aP.length tc)]]++bQ 3 q7)) (O:=([ak pb pc 3 1 (bn (ks.map Prod.snd)),ak nb nc 22 1 (bW q7),oI z2 34 [(vI 0),(vI 0),gS,nS],oI z1 26 [(vI b.vars),(vI b.ae),(.slice sb b.start.length sc),(.slice eb b.ao.length ec),(.slice tb b.aP.length tc)]]++(bQ 3 q7))) (by
  have h9:=KP w pb pc (ks.map Prod.snd) (by rw[ag];omega)
  rw[ag,BS]at h9;exact h9) (by exact Sub.rf)
 refine TO.lc acJ Vp ?_
 clear Vp
 rintro vr O' ⟨A2,rfl,rfl⟩
 refine bJ (aQ ?_)
 have Vq:=fun(w1:World) (hI:Inv w ([ak pb pc 3 1 (bn cp),ak nb nc 22 1 (bW q7),oI z2 34 [(vI 0),(vI 0),gS,nS],oI z1 26 [(vI b.vars),(vI b.ae),(.slice sb b.start.length sc),(.slice eb b.ao.length ec),(.slice tb b.aP.length tc)]]++(bQ 3 q7)) w1)=>(haveI:=j6 hI;(by
  have h9:=vg w1 pb pc (cp.map fun y:Nat=>(y:Int)) (by rw[vq];exact hI.ga (mG 0)) (by rw[ag];omega) (by rw[ag];omega)
  rw[ag,nN]at h9;exact h9))
 refine TO.lc Oj (aK Vq) ?_
 clear Vq
 rintro vr O' ⟨N,rfl,⟨mx,rfl,KA,hm2⟩,rfl⟩
 refine bF fg (aH F (fun hc=>?_) (fun hc=>?_))
 ·refine ba ?_
  refine T.dH 22 1 (T.dH 3 1 ?_)
  refine aJ (ad (dy _ nz cQ F) (au (cE [(vI 0),(vI 0),nS,nS] 4 cQ ?_)))
  refine bm ?_
  refine dT (vI 10) (i:=4) results7 gQ F cQ F F F F ?_
  exact⟨[ak none 0 22 1 [],ak none 0 3 1 []]++bQ 3 [],(by exact Sub.k (.k .z)),⟨0,0,[],[]⟩,none,none,0,0,[],10,F,F,F,fun h9=>absurd h9 (by omega)⟩
 have Q3: ∀k∈ks,(sz (jv (ks.map Prod.snd))) k.2≤16:=fun k9 h9=>by
  have h8:=hm2 (((sz (jv (ks.map Prod.snd))) k9.2:Nat):Int) (by rw[←BS];exact List.mem_map.2 ⟨_,List.mem_map.2 ⟨_,List.mem_map.2 ⟨k9,h9,F⟩,F⟩,F⟩)
  omega
 refine aE (aB (bY vn bt) (ad (bp 3 nw) (az (bY gQ bt) (au (cE [(vI b.vars)] 2 bt ?_)))))
 refine ad (bY gQ cf) (au (cE [(.slice pb ks.length pc)] 2 cf ?_))
 refine TO.nl (aB (eg 2 gQ cQ) (au (cE [(vI b.vars),(vI 0),gS,(.slice pb ks.length pc)] 2 cQ ?_)))
 refine bm ?_
 refine dT (vI 0) (i:=2) results7 gQ F cQ F F F F ?_
 refine⟨[ak nb nc 22 1 (bW q7),ak pb pc 3 1 (bn cp)]++bQ 3 q7,(by exact Sub.dm [ak pb pc 3 1 (bn cp)] _ (.k (.d (.d .rf)))),⟨b.vars,0,nums q7,ks.map fun k=>(((sz (jv (ks.map Prod.snd))) k.2:Nat):Int)⟩,nb,pb,nc,pc,q7,0,?_,?_,F,fun _=>?_⟩
 ·show _=Value.tuple #[Value.agg #[vI b.vars,vI 0,.slice nb (nums q7).length nc,.slice pb (ks.map fun k=>(((sz (jv (ks.map Prod.snd))) k.2:Nat):Int)).length pc],vI 0]
  rw[ag,ag];rfl
 ·rw[←KV,BS]
 ·rw[ahn]at hD
  exact Ol hv yD.vd yD.vars yD.oW yD.se (fun q=>by rw[←hF];exact HN Kp q) (fun q=>by rw[←Vn];exact HN kB q) hD.ex (Jf _) (fun k hk=>Jh.2 (List.mem_map_of_mem hk)) (by omega) Q3
theorem Wj (w:World) [eT prog w] [eT prog w] (b:Option Addr) (c n:Nat) (l:List Nat) (hn:n=l.length) (h:Sl w b (bn l)) (hl: ∀x∈l,x<10000) (tJ:l.length≤64):
  cR prog 38 [.slice b n c] w fun v N=>v=str (kn l)∧N=[]:=by
 subst hn;exact aeN w b c l h hl tJ
theorem Uc:Gt prog 92 ⟨"class",3,0,false, "", "sentinel/parity",0⟩ ⟨"next",9,1,false, "", "sentinel/parity",8⟩:=⟨Pk,nw,ZE,F,F,by decide,by decide,by kernel_rfl⟩
theorem Ud (w:World) [eT prog w] (p:dG) (k:DK) (h:p6 w p k) (hB:nT p):
  cR prog 9 [pV p k] w fun v N=> ∃nb nc fb fc qs,v=.tuple #[.agg (ri (kE p) nb nc fb fc).toArray,vI (b7 p:Int)]∧N=[ak nb nc 22 1 (bW qs),ak fb fc 3 1 (ints (kE p).dX)]++bQ 3 qs∧nums qs=(kE p).next:=by
 refine aF func9 F ntmps9 F ?_
 have ZO:=hB.n;have ZP:=hB.f
 have qw:=h.rows.1
 refine a8 (au (e5 ((pC p k)) (fun z1=>?_)))
 refine au (bO cQ (fun z2=>?_))
 refine bh (bJ (ad (eg 1 gQ cQ) ?_))
 have aeQ:=fun(w1:World) (hI:Inv w [oI z2 34 [(vI 0),(vI 0),nS,nS],oI z1 34 (pC p k)] w1)=>(haveI:=j6 hI;mj w1 p k (hI.wT h) hB)
 refine TO.lc wh (aK aeQ) ?_
 clear aeQ
 rintro vr O' ⟨N,rfl,rfl,rfl⟩
 refine ai (bP gB (TO.nl (aH F (fun hc=>?_) (fun hc=>?_))))
 ·have V_:b7 p≠0:=by omega
  refine ba (T.dH 22 1 (T.dH 3 1 ?_))
  refine aJ (ad (dy _ nz cQ F) (aQ (au (cE [(vI 0),(vI 0),nS,nS] 2 cQ ?_))))
  refine bm ?_
  refine dT (vI (b7 p:Int)) (i:=2) results9 gQ F cQ F F F F ?_
  rw[Ub (by omega)]
  exact⟨[ak none 0 22 1 [],ak none 0 3 1 []]++bQ 3 [],(by exact Sub.k (.k .z)),none,0,none,0,[],F,F,F⟩
 have Wa: ¬b7 p≠0:=by omega
 have wY:b7 p=0:=by omega
 have hv:cU p:=de.1 wY
 have hn4:=hv.n4
 have h6:=hv.wx
 refine aE (aB (bY gQ cf) (ad (bp 1 ew) ?_))
 have Fb:=fun(w1:World) (hI:Inv w [oI z2 34 [(vI 0),(vI 0),nS,nS],oI z1 34 (pC p k)] w1)=>(haveI:=j6 hI;BV w1 k.fb k.fc p.dX (hI.sl h.dX) (by rw[hv.pl];omega))
 refine TO.lc IH (aK Fb) ?_
 clear Fb
 rintro vr O' ⟨N,rfl,cb0,cc0,rfl,rfl⟩
 refine bh (bJ (ai (aw ?_)))
 refine cS (fun(kk:Nat) ρ O=> ∃(cb:Option Addr) (cc:Nat),O=[ak cb cc 3 1 (bn (fw p kk)),oI z2 34 [(vI 0),(vI 0),nS,nS],oI z1 34 (pC p k)]∧cL [(0,(pV p k)),(1,(.pointer (aD z1))),(2,(.pointer (aD z2))),(3,vI 0),(4,vI (b7 p:Int)),(5,(.slice cb p.next.length cc)),(6,vN (tt p kk))] ρ) (fun kk=>p.next.length+1-tt p kk) 0 ?_ ?_
 ·exact⟨cb0,cc0,by rw[QJ hv];rfl,⟨F,F,F,F,F,(by rw[hv.pl];rfl),F,trivial⟩⟩
 rintro kk ρ O ⟨cb,cc,rfl,hH⟩
 obtain⟨fy,rfl⟩:=hH.elim
 clear hH
 have nN:=QD p kk
 have aeR:=Ua hv kk
 have anI:=T5 p kk
 refine aw (a8 ?_)
 refine au (io lx (fun n:Nat=>Value.int .i64 (n:Int)) (fun Dz=>?_))
 refine ai (bP (bV ew) (au (cq p.next.length ew bt F F (by omega) (by omega) (fun z4=>?_))))
 refine bh (bJ (ad (bY gQ dQ) (ad (bp 4 mi) (ad (bV mi) (aS (aw ?_))))))
 refine cS (fun(s:Nat) ρ O=> ∃(xs:List Nat) (ks:List Au),O=[aU z4 p.next.length 3 1 (bn xs),cM lx (fun n:Nat=>Value.int .i64 (n:Int)) Dz ks.zipIdx,ak cb cc 3 1 (bn (fw p kk)),oI z2 34 [(vI 0),(vI 0),nS,nS],oI z1 34 (pC p k)]∧uR p (fw p kk) s xs ks∧cL [(0,(pV p k)),(1,(.pointer (aD z1))),(2,(.pointer (aD z2))),(3,vI 0),(4,vI (b7 p:Int)),(5,(.slice cb p.next.length cc)),(6,vN (tt p kk)),(7,(.map (some Dz))),(8,(.slice (aD z4) p.next.length p.next.length)),(40,(.slice k.nb p.next.length k.nc)),(41,vI (p.next.length:Int)),(42,vN s)] ρ) (fun s=>p.next.length-s) 0 ?_ ?_
 ·exact⟨List.replicate p.next.length 0,[],by rw[tq];rfl,uR.start _ _,(.of F)⟩
 rintro s ρ O ⟨xs,ks,rfl,hR,hH⟩
 obtain⟨fy,rfl⟩:=hH.elim
 clear hH
 have jm:=hR.len
 have hkf:=hR.ZR
 have hs:=hR.le
 refine aB cH (TO.ns (aH F (fun hc=>?_) (fun hc=>?_)))
 ·have aeJ:s<p.next.length:=by omega
  have kB:s<p.next.length:=by omega
  obtain⟨v1,c1,g1,s1⟩:=h.rows.get kB
  have uf:p.next[s].length=dF p.d:=hv.val.len _ (ap kB)
  refine aE (ba (aw (bP (b8 s mi cf F F (bS h.outer) kB (qw▸kB)) (ad (eA ew F F h.outer g1) (bh (ai (bP (bV ew) (au (cq (p.next[s].length) ew bt F F (by omega) (by omega) (fun z5=>?_))))))))))
  refine bh (bJ (az (bV ew) (aS (aw ?_))))
  let jR:Value:=(.slice v1 p.next[s].length c1)
  refine cS (fun(x:Nat) ρ O=>O=[aU z5 p.next[s].length 3 1 (bn (tv (ph p (fw p kk) s) x)),aU z4 p.next.length 3 1 (bn xs),cM lx (fun n:Nat=>Value.int .i64 (n:Int)) Dz ks.zipIdx,ak cb cc 3 1 (bn (fw p kk)),oI z2 34 [(vI 0),(vI 0),nS,nS],oI z1 34 (pC p k)]∧x≤dF p.d∧cL [(0,(pV p k)),(1,(.pointer (aD z1))),(2,(.pointer (aD z2))),(3,vI 0),(4,vI (b7 p:Int)),(5,(.slice cb p.next.length cc)),(6,vN (tt p kk)),(7,(.map (some Dz))),(8,(.slice (aD z4) p.next.length p.next.length)),(9,vN s),(10,jR),(11,(.slice (aD z5) p.next[s].length p.next[s].length)),(40,(.slice k.nb p.next.length k.nc)),(41,vI (p.next.length:Int)),(42,vN s),(50,jR),(51,vI (p.next[s].length:Int)),(52,vN x)] ρ) (fun x=>dF p.d-x) 0 ?_ ?_
  ·exact⟨by rw[L8,lj,uf,tq],aG _,(.of F)⟩
  rintro x ρ O ⟨rfl,hx,hH⟩
  obtain⟨fy,rfl⟩:=hH.elim
  clear hH
  have BR:=QM (ph p (fw p kk) s) (x:=x) (by rw[lj];exact hx)
  rw[lj]at BR
  refine aB cH (TO.ns (aH F (fun hc=>?_) (fun hc=>?_)))
  ·have Wc:x<p.next[s].length:=by omega
   have wU:x<dF p.d:=by omega
   obtain⟨wS,lM,ru,_⟩:=hv.to kB wU
   refine aE (ba (aw (bP (b8 x ew bt F F (bS s1) lM (by rw[ag];exact lM)) (ad (eA nw F F s1 ru) (bh (ai (aJ (aQ (dr (az (b8 ((di p.d s x)) ew bt F F (bU 3) wS (by rw[ag];omega)) (ad (dR nw F F (bU 3) (uS nN wS)) (ad (b8 x ew bt F F (bU 0) lM (by rw[ag];omega)) (au (gw (v:=vN ((fw p kk).getD (di p.d s x) 0)) (vs:=[(vN ((fw p kk).getD (di p.d s x) 0))]) (cs:=bn (tv (ph p (fw p kk) s) x)) x 0 bt F F F F F (by simp) F (by first|(simp;omega)|(simp_all;omega)) ?_))))))))))))))
   let gC:Lx.Item:=aU z5 p.next[s].length 3 1 (bn (tv (ph p (fw p kk) s) (x+1)))
   refine cY (O':=[gC,aU z4 p.next.length 3 1 (bn xs),cM lx (fun n:Nat=>Value.int .i64 (n:Int)) Dz ks.zipIdx,ak cb cc 3 1 (bn (fw p kk)),oI z2 34 [(vI 0),(vI 0),nS,nS],oI z1 34 (pC p k)]) (by rw[show dq (bn (tv (ph p (fw p kk) s) x)) x [(vN ((fw p kk).getD (di p.d s x) 0))]=bn (tv (ph p (fw p kk) s) (x+1))from(by rw[←QN (by rw[lj];exact wU) (QK wU)];simp[dq])];exact bj (ay _)) ?_
   refine TO.nl (aJ (ad (bK (b:=1) x F F (by omega)) (aS ?_)))
   exact⟨x+1,by omega,[gC,aU z4 p.next.length 3 1 (bn xs),cM lx (fun n:Nat=>Value.int .i64 (n:Int)) Dz ks.zipIdx,ak cb cc 3 1 (bn (fw p kk)),oI z2 34 [(vI 0),(vI 0),nS,nS],oI z1 34 (pC p k)],(by exact Sub.rf),F,by omega,(.of F)⟩
  have We: ¬x<p.next[s].length:=by omega
  refine bA ?_
  have hnc:tv (ph p (fw p kk) s) x=(ph p (fw p kk) s):=by
   have h9:=QL (ph p (fw p kk) s)
   rw[lj]at h9
   rw[show x=dF p.d by omega];exact h9
  let dM:Lx.Item:=aU z5 p.next[s].length 3 1 (bn (ph p (fw p kk) s))
  refine cV (O':=[dM,aU z4 p.next.length 3 1 (bn xs),cM lx (fun n:Nat=>Value.int .i64 (n:Int)) Dz ks.zipIdx,ak cb cc 3 1 (bn (fw p kk)),oI z2 34 [(vI 0),(vI 0),nS,nS],oI z1 34 (pC p k)]) (by rw[hnc];exact Sub.rf) ?_
  let dC:List Value:=[vN ((fw p kk).getD s 0),(str (kn (ph p (fw p kk) s)))]
  refine iD (fun ρ O=> ∃(kT:Nat),O=[oI kT 92 dC,dM,aU z4 p.next.length 3 1 (bn xs),cM lx (fun n:Nat=>Value.int .i64 (n:Int)) Dz ks.zipIdx,ak cb cc 3 1 (bn (fw p kk)),oI z2 34 [(vI 0),(vI 0),nS,nS],oI z1 34 (pC p k)]∧cL [(0,(pV p k)),(1,(.pointer (aD z1))),(2,(.pointer (aD z2))),(3,vI 0),(4,vI (b7 p:Int)),(5,(.slice cb p.next.length cc)),(6,vN (tt p kk)),(7,(.map (some Dz))),(8,(.slice (aD z4) p.next.length p.next.length)),(9,vN s),(10,jR),(11,(.slice (aD z5) p.next[s].length p.next[s].length)),(14,(.pointer (aD kT))),(40,(.slice k.nb p.next.length k.nc)),(41,vI (p.next.length:Int)),(42,vN s)] ρ) ?_ ?_
  ·refine T.oH [ak cb cc 3 1 (bn (fw p kk))] 9 mixed F (by exact Sub.d (.d (.d (.k .z)))) (fun _ _ _ _ h=>h) ?_
   refine aO 0 F (by kernel_rfl) aC ?_
   refine aO 1 F (by kernel_rfl) aC ?_
   refine aO 2 F (by kernel_rfl) (b8 s ew bt F F (bU 0) kB (by rw[ag];omega)) ?_
   refine aO 3 F (by kernel_rfl) (dR nw F F (bU 0) (uS nN kB)) ?_
   refine aO 4 F (by kernel_rfl) aC ?_
   have QP:=fun(w1:World) (hI:Inv w [dM,aU z4 p.next.length 3 1 (bn xs),cM lx (fun n:Nat=>Value.int .i64 (n:Int)) Dz ks.zipIdx,ak cb cc 3 1 (bn (fw p kk)),oI z2 34 [(vI 0),(vI 0),nS,nS],oI z1 34 (pC p k)] w1)=>(haveI:=j6 hI;Wj w1 (aD z5) p.next[s].length p.next[s].length (ph p (fw p kk) s) (by rw[lj];exact uf) (hI.ga (mG 0)) (JV aeR s) (by rw[lj];exact h6))
   refine aZ [5,7] (by kernel_rfl) F ⟨⟨_,F,F,dV VJ (aK QP) ?_⟩,⟨_,F,F,bO sB (fun kT=>⟨by exact Sub.d (.d (.d (.d (.k .z)))),?_⟩)⟩,trivial⟩
   ·clear QP
    rintro vr O' ⟨N,rfl,rfl,rfl⟩
    refine⟨by exact Sub.d (.d (.d (.k .z))),?_⟩
    refine aO 6 F (by kernel_rfl) (dy dC Ou sB (by kernel_rfl)) ?_
    refine aZ [7] (by kernel_rfl) F ⟨⟨_,F,F,bO sB (fun kT=>⟨by exact Sub.d (.d (.d (.d (.k .z)))),?_⟩)⟩,trivial⟩
    refine aZ [8] (by kernel_rfl) F ⟨⟨_,F,F,cE dC 0 sB ⟨by exact Sub.d (.d (.d (.d (.k .z)))),?_⟩ F F F F⟩,trivial⟩
    exact dB (by kernel_rfl) ⟨kT,F,(.of F)⟩ (by exact Sub.rf)
   have QP:=fun(w1:World) (hI:Inv w [oI kT 92 [(vI 0),(str [])],dM,aU z4 p.next.length 3 1 (bn xs),cM lx (fun n:Nat=>Value.int .i64 (n:Int)) Dz ks.zipIdx,ak cb cc 3 1 (bn (fw p kk)),oI z2 34 [(vI 0),(vI 0),nS,nS],oI z1 34 (pC p k)] w1)=>(haveI:=j6 hI;Wj w1 (aD z5) p.next[s].length p.next[s].length (ph p (fw p kk) s) (by rw[lj];exact uf) (hI.ga (mG 1)) (JV aeR s) (by rw[lj];exact h6))
   refine aZ [5] (by kernel_rfl) F ⟨⟨_,F,F,dV VJ (aK QP) ?_⟩,trivial⟩
   clear QP
   rintro vr O' ⟨N,rfl,rfl,rfl⟩
   refine⟨by exact Sub.d (.d (.d (.d (.k .z)))),?_⟩
   refine aO 6 F (by kernel_rfl) (dy dC Ou sB (by kernel_rfl)) ?_
   refine aZ [8] (by kernel_rfl) F ⟨⟨_,F,F,cE dC 0 sB ⟨by exact Sub.d (.d (.d (.d (.k .z)))),?_⟩ F F F F⟩,trivial⟩
   exact dB (by kernel_rfl) ⟨kT,F,(.of F)⟩ (by exact Sub.rf)
  rintro ρ O ⟨kT,rfl,hH⟩
  obtain⟨fy,rfl⟩:=hH.elim
  clear hH
  refine ba (bP (eg 0 Pk sB) (ad (bH (pL (K:=lx) (V:=(fun n:Nat=>Value.int .i64 (n:Int))) (a:=(iR p (fw p kk) s)) H0 bt (l6 Uc) F F (mG 3)) (v':=.tuple #[vN (if(iR p (fw p kk) s)∈ks then ix (iR p (fw p kk) s) ks else 0),.bool (decide ((iR p (fw p kk) s)∈ks))]) (by rw[Dw];by_cases hm:(iR p (fw p kk) s)∈ks<;>simp[hm])) (az (bX _) (ad (bX _) (bh (ai (bP gM (TO.nl (aH (p:=(iR p (fw p kk) s)∉ks) (av Value.bool (by rw[decide_not])) (fun hc=>?_) (fun hc=>?_))))))))))
  ·have hk:(iR p (fw p kk) s)∉ks:=hc
   refine aJ (az (eg 0 Pk sB) (az (bH (ym H0 F (mG 3)) (v':=vN ks.length) (by simp)) (au (oY (a:=(iR p (fw p kk) s)) (v:=ks.length) 3 H0 (l6 Uc) F F F F (by rw[s8];exact hk) ?_))))
   refine TO.nl (aJ (dr (az (eg 0 Pk sB) (ad (bH (jy (K:=lx) (V:=(fun n:Nat=>Value.int .i64 (n:Int))) (a:=(iR p (fw p kk) s)) H0 bt (l6 Uc) F F (mG 3)) (v':=vN ks.length) (by rw[←y8,Dw,aA (by simp),ku hk];simp[ix])) (ad (b8 s ew bt F F (bU 2) kB (by rw[ag];omega)) (au (gw (v:=vN ks.length) (vs:=[(vN ks.length)]) (cs:=bn xs) s 2 bt F F F F F (by simp) F (by first|(simp;omega)|(simp_all;omega)) ?_)))))))
   refine cY (O':=[oI kT 92 dC,dM,aU z4 p.next.length 3 1 (bn (xs.set s ks.length)),cM lx (fun n:Nat=>Value.int .i64 (n:Int)) Dz (ks.zipIdx++[((iR p (fw p kk) s),ks.length)]),ak cb cc 3 1 (bn (fw p kk)),oI z2 34 [(vI 0),(vI 0),nS,nS],oI z1 34 (pC p k)]) (by rw[show dq (bn xs) s [(vN ks.length)]=bn (xs.set s ks.length)from(by simp[dq])];exact bj (ay _)) ?_
   refine TO.nl (aJ (ad (bK (b:=1) s F F (by omega)) (aS ?_)))
   exact⟨s+1,by omega,[aU z4 p.next.length 3 1 (bn (xs.set s ks.length)),cM lx (fun n:Nat=>Value.int .i64 (n:Int)) Dz (ks.zipIdx++[((iR p (fw p kk) s),ks.length)]),ak cb cc 3 1 (bn (fw p kk)),oI z2 34 [(vI 0),(vI 0),nS,nS],oI z1 34 (pC p k)],(by exact Sub.d (.d (.k (.k (.k (.k (.k .z))))))),xs.set s ks.length,ks++[(iR p (fw p kk) s)],by rw[y8],hR.SR kB hk,(.of F)⟩
  have hk:(iR p (fw p kk) s)∈ks:=Classical.not_not.1 hc
  refine aE (aJ (dr (az (eg 0 Pk sB) (ad (bH (jy (K:=lx) (V:=(fun n:Nat=>Value.int .i64 (n:Int))) (a:=(iR p (fw p kk) s)) H0 bt (l6 Uc) F F (mG 3)) (v':=vN (ix (iR p (fw p kk) s) ks)) (by rw[Dw,aA hk];rfl)) (ad (b8 s ew bt F F (bU 2) kB (by rw[ag];omega)) (au (gw (v:=vN (ix (iR p (fw p kk) s) ks)) (vs:=[(vN (ix (iR p (fw p kk) s) ks))]) (cs:=bn xs) s 2 bt F F F F F (by simp) F (by first|(simp;omega)|(simp_all;omega)) ?_)))))))
  let fo:Lx.Item:=aU z4 p.next.length 3 1 (bn (xs.set s (ix (iR p (fw p kk) s) ks)))
  refine cY (O':=[oI kT 92 dC,dM,fo,cM lx (fun n:Nat=>Value.int .i64 (n:Int)) Dz ks.zipIdx,ak cb cc 3 1 (bn (fw p kk)),oI z2 34 [(vI 0),(vI 0),nS,nS],oI z1 34 (pC p k)]) (by rw[show dq (bn xs) s [(vN (ix (iR p (fw p kk) s) ks))]=bn (xs.set s (ix (iR p (fw p kk) s) ks))from(by simp[dq])];exact bj (ay _)) ?_
  refine TO.nl (aJ (ad (bK (b:=1) s F F (by omega)) (aS ?_)))
  exact⟨s+1,by omega,[fo,cM lx (fun n:Nat=>Value.int .i64 (n:Int)) Dz ks.zipIdx,ak cb cc 3 1 (bn (fw p kk)),oI z2 34 [(vI 0),(vI 0),nS,nS],oI z1 34 (pC p k)],(by exact Sub.d (.d (.k (.k (.k (.k (.k .z))))))),xs.set s (ix (iR p (fw p kk) s) ks),ks,F,hR.nK kB hk,(.of F)⟩
 have aeM: ¬s<p.next.length:=by omega
 refine bA ?_
 refine bI (bh (bJ (az (bH (ym H0 F (mG 1)) (v':=vN ks.length) (by simp)) (aQ (bF en (aH F (fun hc=>?_) (fun hc=>?_)))))))
 ·have akC:ks.length=tt p kk:=by omega
  obtain⟨hxs,O4⟩:=hR.done (by omega)
  have aeS:ks.length=p_ p kk:=by rw[O4];rfl
  have aeT:p_ p kk=tt p kk:=by omega
  refine bA ?_
  have GD:th p (jG xs):=by rw[hxs];exact L4 hv aeT
  obtain⟨FF,hFF⟩: ∃l,qN (jG xs) p.d p.next.length=l:=⟨_,F⟩
  have mK:=hv.st
  let eE:List Lx.Item:=[aU z4 p.next.length 3 1 (bn xs),oI z2 34 [(vI 0),(vI 0),nS,nS],oI z1 34 (pC p k)]
  refine cV (O':=eE) (by exact Sub.k (.d (.d (.k (.k .z))))) ?_
  refine iD (fun ρ O=> ∃(mN qB:Nat),O=[aU qB 1 3 1 [vN p.start.toNat],cM fB (fun n:Nat=>Value.int .i64 (n:Int)) mN [(((xs.getD p.start.toNat 0:Nat):Int),(0:Nat))],aU z4 p.next.length 3 1 (bn xs),oI z2 34 [(vI 0),(vI 0),nS,nS],oI z1 34 (pC p k)]∧cL [(0,(pV p k)),(1,(.pointer (aD z1))),(2,(.pointer (aD z2))),(3,vI 0),(4,vI (b7 p:Int)),(5,(.slice (aD z4) p.next.length p.next.length)),(6,vN (tt p kk)),(7,(.map (some Dz))),(8,(.slice (aD z4) p.next.length p.next.length)),(17,(.map (some mN))),(18,(.slice (aD qB) 1 1))] ρ) ?_ ?_
  ·refine T.oH eE 13 mixed F (by exact Sub.rf) (fun _ _ _ _ h=>h) ?_
   refine aO 1 F (by kernel_rfl) aC ?_
   refine aO 2 F (by kernel_rfl) (bY gQ bt) ?_
   refine aO 3 F (by kernel_rfl) (bH (bp 2 nw) (v':=vN p.start.toNat) (av (Value.int .i64) (bq hv.val.s0).symm)) ?_
   refine aO 4 F (by kernel_rfl) (b8 p.start.toNat ew bt F F (bU 0) mK (by rw[ag];omega)) ?_
   refine aO 5 F (by kernel_rfl) (dR nw F F (bU 0) (uS jm mK)) ?_
   refine aO 8 F (by kernel_rfl) (bY gQ bt) ?_
   refine aO 9 F (by kernel_rfl) (bH (bp 2 nw) (v':=vN p.start.toNat) (av (Value.int .i64) (bq hv.val.s0).symm)) ?_
   refine aZ [0,10] (by kernel_rfl) F ⟨⟨_,F,F,io fB (fun n:Nat=>Value.int .i64 (n:Int)) (fun mN=>⟨by exact Sub.d (.k (.k (.k .z))),?_⟩)⟩,⟨_,F,F,dv (v:=vN p.start.toNat) ew bt F F F (fun qB=>⟨by exact Sub.d (.k (.k (.k .z))),?_⟩)⟩,trivial⟩
   ·refine aZ [6,10] (by kernel_rfl) F ⟨⟨_,F,F,jD (a:=((xs.getD p.start.toNat 0:Nat):Int)) (v:=(0:Nat)) 0 E2 (fZ.int nw) F F F F (by simp) ⟨by exact Sub.d (.k (.k (.k .z))),?_⟩⟩,⟨_,F,F,dv (v:=vN p.start.toNat) ew bt F F F (fun qB=>⟨by exact Sub.d (.d (.k (.k (.k .z)))),?_⟩)⟩,trivial⟩
    ·refine aO 7 F (by kernel_rfl) aC ?_
     refine aO 11 F (by kernel_rfl) dN ?_
     refine aZ [10] (by kernel_rfl) F ⟨⟨_,F,F,dv (v:=vN p.start.toNat) ew bt F F F (fun qB=>⟨by exact Sub.d (.d (.k (.k (.k .z)))),?_⟩)⟩,trivial⟩
     refine aO 12 F (by kernel_rfl) dN ?_
     exact dB (by kernel_rfl) ⟨mN,qB,F,(.of F)⟩ (by exact Sub.rf)
    refine aZ [6] (by kernel_rfl) F ⟨⟨_,F,F,jD (a:=((xs.getD p.start.toNat 0:Nat):Int)) (v:=(0:Nat)) 1 E2 (fZ.int nw) F F F F (by simp) ⟨by exact Sub.d (.d (.k (.k (.k .z)))),?_⟩⟩,trivial⟩
    refine aO 7 F (by kernel_rfl) aC ?_
    refine aO 11 F (by kernel_rfl) dN ?_
    refine aO 12 F (by kernel_rfl) dN ?_
    exact dB (by kernel_rfl) ⟨mN,qB,F,(.of F)⟩ (by exact Sub.rf)
   refine aZ [0] (by kernel_rfl) F ⟨⟨_,F,F,io fB (fun n:Nat=>Value.int .i64 (n:Int)) (fun mN=>⟨by exact Sub.d (.d (.k (.k (.k .z)))),?_⟩)⟩,trivial⟩
   refine aZ [6] (by kernel_rfl) F ⟨⟨_,F,F,jD (a:=((xs.getD p.start.toNat 0:Nat):Int)) (v:=(0:Nat)) 0 E2 (fZ.int nw) F F F F (by simp) ⟨by exact Sub.d (.d (.k (.k (.k .z)))),?_⟩⟩,trivial⟩
   refine aO 7 F (by kernel_rfl) aC ?_
   refine aO 11 F (by kernel_rfl) dN ?_
   refine aO 12 F (by kernel_rfl) dN ?_
   exact dB (by kernel_rfl) ⟨mN,qB,F,(.of F)⟩ (by exact Sub.dm [cM fB (fun n:Nat=>Value.int .i64 (n:Int)) mN [(((xs.getD p.start.toNat 0:Nat):Int),(0:Nat))]] _ (.k (.k (.k (.k .z)))))
  rintro ρ O ⟨mN,qB,rfl,hH⟩
  obtain⟨fy,rfl⟩:=hH.elim
  clear hH
  refine aB (bY gQ bt) (ad (bp 4 nw) (ad (dy [(vI p.vars),(vI 0),nS,nS] nz cQ (by kernel_rfl)) (au (bO cQ (fun z6=>?_)))))
  refine au (cE [(vI p.vars),(vI 0),nS,nS] 0 cQ ?_)
  refine bJ (ai (aw (T.dH 22 1 (T.dH 3 1 ?_))))
  let gk:Lx.Item:=oI z6 34 [(vI p.vars),(vI 0),nS,nS]
  refine cV (O':=[aU qB 1 3 1 [vN p.start.toNat],cM fB (fun n:Nat=>Value.int .i64 (n:Int)) mN [(((xs.getD p.start.toNat 0:Nat):Int),(0:Nat))],ak none 0 22 1 [],ak none 0 3 1 [],gk,aU z4 p.next.length 3 1 (bn xs),oI z2 34 [(vI 0),(vI 0),nS,nS],oI z1 34 (pC p k)]) (by exact Sub.dm [ak none 0 22 1 [],ak none 0 3 1 [],gk] _ (.dm [ak none 0 22 1 [],ak none 0 3 1 [],gk] _ (.k (.k (.k (.k (.k (.k .z)))))))) ?_
  refine cS (fun(i:Nat) ρ O=> ∃(lb nb fb:Option Addr) (lc nc fc:Nat) (qs:List Rec) (ls:List Nat),O=([ak lb lc 3 1 (bn ls),cM fB (fun n:Nat=>Value.int .i64 (n:Int)) mN (GC xs ls),ak nb nc 22 1 (bW qs),ak fb fc 3 1 (ints ((FF.take i).map fun s=>((fC p s:Nat):Int))),oI z6 34 [(vI p.vars),(vI 0),(.slice nb i nc),(.slice fb i fc)],aU z4 p.next.length 3 1 (bn xs),oI z2 34 [(vI 0),(vI 0),nS,nS],oI z1 34 (pC p k)]++(bQ 3 qs))∧i≤ls.length∧qs.length=i∧nums qs=(FF.take i).map (lL (jG xs) p.d FF)∧ls=(qN (jG xs) p.d i)∧cL [(0,(pV p k)),(1,(.pointer (aD z1))),(2,(.pointer (aD z2))),(3,vI 0),(4,vI (b7 p:Int)),(5,(.slice (aD z4) p.next.length p.next.length)),(6,vN (tt p kk)),(7,(.map (some Dz))),(8,(.slice (aD z4) p.next.length p.next.length)),(17,(.map (some mN))),(18,(.slice lb ls.length lc)),(19,(.pointer (aD z6))),(20,vN i)] ρ) (fun i=>p.next.length+1-i) 0 ?_ ?_
  ·exact⟨_,none,none,1,0,0,[],[p.start.toNat],F,aG _,F,F,F,(.of F)⟩
  rintro i ρ O ⟨lb,nb,fb,lc,nc,fc,qs,ls,rfl,hi,tD,pO,MP,hH⟩
  obtain⟨fy,rfl⟩:=hH.elim
  clear hH
  have anK:ls.length≤p.next.length:=by rw[MP];exact rB hv GD i
  refine ba (bI (az (bV ew) (bF cH (aH F (fun hc=>?_) (fun hc=>?_)))))
  ·have aiH:i<ls.length:=by omega
   have gf:i<ls.length:=by omega
   obtain⟨s,Mf,kB,hFi,tG⟩:=aeO hv GD (MP▸gf)
   rw[hFF]at hFi
   obtain⟨v1,c1,g1,s1⟩:=h.rows.get kB
   have uf:p.next[s].length=dF p.d:=hv.val.len _ (ap kB)
   have Cv:(bn ls)[i]? =some (vN s):=by rw[bc,MP,Mf];rfl
   have AL:s<p.dX.length:=by rw[hv.pl];exact kB
   refine aE (ba (aw (ba ?_)))
   refine e6 [(0,0),(1,0),(2,0),(3,0),(4,0),(5,0),(6,0),(7,0),(8,0),(9,2),(10,2)] ?_
   refine am F (bY gQ dQ) (am F (bp 7 mi) (am F aC (am F aC (am F (b8 i ew bt F F (bU 0) gf (by rw[ag];exact gf)) (am F (dR nw F F (bU 0) Cv) (am F (b8 s mi cf F F (bS h.outer) kB (qw▸kB)) (am F (eA ew F F h.outer g1) (am F (bV ew) ?_))))))))
   refine cG F F (cq (p.next[s].length) ew bt F F (by omega) (by omega) (fun z7=>?_))
   refine cG F F (iE F F dN ?_)
   refine cl ?_
   refine ba (ba ?_)
   refine e6 [(0,0),(1,0),(2,0),(3,0),(4,0),(5,0),(6,0),(7,0),(8,0),(9,0)] ?_
   refine am F (bY gQ dQ) (am F (bp 8 mi) (am F aC (am F aC (am F (b8 i ew bt F F (bU 1) gf (by rw[ag];exact gf)) (am F (dR nw F F (bU 1) Cv) (am F (b8 s mi cf F F (bS h.outer) kB (qw▸kB)) (am F (eA ew F F h.outer g1) (am F (bV ew) (am F aC ?_)))))))))
   refine cl ?_
   refine aw ?_
   have Rl:ints (nJ (jG xs) p.d FF s 0)=List.replicate p.next[s].length (vI 0):=by rw[L7,uf];simp
   let gS:Value:=(.slice nb i nc)
   let iC:Lx.Item:=oI z6 34 [(vI p.vars),(vI 0),gS,(.slice fb i fc)]
   refine cS (fun(x:Nat) ρ O=> ∃(lb:Option Addr) (lc:Nat) (ms:List Nat),O=([aU z7 p.next[s].length 3 1 (ints (nJ (jG xs) p.d FF s x)),ak lb lc 3 1 (bn ms),cM fB (fun n:Nat=>Value.int .i64 (n:Int)) mN (GC xs ms),ak nb nc 22 1 (bW qs),ak fb fc 3 1 (ints ((FF.take i).map fun s=>((fC p s:Nat):Int))),iC,aU z4 p.next.length 3 1 (bn xs),oI z2 34 [(vI 0),(vI 0),nS,nS],oI z1 34 (pC p k)]++(bQ 3 qs))∧x≤dF p.d∧ms=(qM (jG xs) p.d (qN (jG xs) p.d i) s x)∧cL [(0,(pV p k)),(1,(.pointer (aD z1))),(2,(.pointer (aD z2))),(3,vI 0),(4,vI (b7 p:Int)),(5,(.slice (aD z4) p.next.length p.next.length)),(6,vN (tt p kk)),(7,(.map (some Dz))),(8,(.slice (aD z4) p.next.length p.next.length)),(17,(.map (some mN))),(18,(.slice lb ms.length lc)),(19,(.pointer (aD z6))),(20,vN i),(21,(.slice (aD z7) p.next[s].length p.next[s].length)),(134,(.slice v1 p.next[s].length c1)),(135,vI (p.next[s].length:Int)),(136,vN x)] ρ) (fun x=>dF p.d-x) 0 ?_ ?_
   ·exact⟨lb,lc,ls,by rw[Rl];rfl,aG _,MP,(.of F)⟩
   rintro x ρ O ⟨lb,lc,ms,rfl,hx,J0,hH⟩
   obtain⟨fy,rfl⟩:=hH.elim
   clear hH
   have hcq:=QF (e:=(jG xs)) (aa:=FF) (s:=s) hx
   have T7:=Iw hv GD Mf hx
   have DB:=T7.length_le
   rw[←J0]at DB
   have wy:=rB hv GD p.next.length
   refine aB cH (TO.ns (aH F (fun hc=>?_) (fun hc=>?_)))
   ·have aiI:x<p.next[s].length:=by omega
    have wU:x<dF p.d:=by omega
    obtain⟨wS,lM,ru,_⟩:=hv.to kB wU
    refine aE (ba (aw (bP (b8 x ew bt F F (bS s1) lM (by rw[ag];exact lM)) (ad (eA nw F F s1 ru) (bh (ai (bI (aQ (az (b8 ((di p.d s x)) ew bt F F (bU 6) wS (by rw[ag];omega)) (ad (dR nw F F (bU 6) (uS jm wS)) (ad (bH (pL (K:=fB) (V:=(fun n:Nat=>Value.int .i64 (n:Int))) (a:=((xs.getD (di p.d s x) 0:Nat):Int)) E2 bt (fZ.int nw) F F (mG 2)) (v':=.tuple #[vN (if(ms.any fun k=>jG xs k (di p.d s x))=true then gv (jG xs) (di p.d s x) ms else 0),.bool (ms.any fun k=>jG xs k (di p.d s x))]) (by rw[QI];by_cases h9:(ms.any fun k=>jG xs k (di p.d s x))=true<;>simp[h9])) (az (bX _) (ad (bX _) (bh (bh (bJ ?_))))))))))))))))
    refine aQ (bF gM (aH (p:= ¬(ms.any fun k=>jG xs k (di p.d s x))=true) (av Value.bool (by cases(ms.any fun k=>jG xs k (di p.d s x))<;>rfl)) (fun hc=>?_) (fun hc=>?_)))
    ·have Ip: ¬(ms.any fun k=>jG xs k (di p.d s x))=true:=hc
     have Zh:=L6 hv GD Mf wU (by rw[←J0];exact Ip)
     rw[←J0,hFF]at Zh
     refine bP (bV ew) (ai ?_)
     refine T.ds [aU z4 p.next.length 3 1 (bn xs)] [(0,0),(1,0),(2,0),(3,0),(4,0),(5,0),(6,0),(7,0),(8,1),(9,1),(10,1),(11,0),(12,2),(13,2)] (by exact Sub.d (.d (.d (.d (.d (.d (.k .z))))))) ?_
     refine am F aC (am F aC (am F aC (am F (b8 ((di p.d s x)) ew bt F F (bU 0) wS (by rw[ag];omega)) (am F (dR nw F F (bU 0) (uS jm wS)) (am F aC (am F aC (am F aC ?_)))))))
     refine eH F F (dv (v:=vN (di p.d s x)) ew bt F F F (fun z8=>⟨by exact Sub.d (.d (.d (.d (.d (.d (.d (.k .z))))))),?_⟩))
     refine eH F F (dp 2 ew ew bt F F F F (by simp) (by decide) (Src.row (j:=0) F (by simp)) (by simp[fL]) (by omega) (by decide) (by decide) (fun z9 Ue=>⟨by exact Sub.d (.d (.d (.d (.d (.d (.d (.k .z))))))),?_⟩))
     refine eH F F (Iq (K:=fB) (V:=(fun n:Nat=>Value.int .i64 (n:Int))) (a:=((xs.getD (di p.d s x) 0:Nat):Int)) (z:=vI 0) 3 E2 bt (fZ.int nw) F F F (T_ Ip) (fun ck=>⟨by exact Sub.d (.d (.d (.d (.d (.d (.d (.k .z))))))),?_⟩))
     refine am F (bX _) ?_
     refine cG F F (Dt (K:=fB) (V:=(fun n:Nat=>Value.int .i64 (n:Int))) (v:=ms.length) 3 F F F F ?_)
     refine cG F F (iE F F dN ?_)
     refine cl ?_
     refine aJ (dr (az (b8 x ew bt F F (bU 1) lM (by rw[ag,hcq];exact wU)) (au (gw (v:=vI (ms.length:Int)) (vs:=[(vI (ms.length:Int))]) (cs:=ints (nJ (jG xs) p.d FF s x)) x 1 bt F F F F F (by simp) F (by first|(simp;omega)|(simp_all;omega)) ?_))))
     refine cY (O':=([aU z8 1 3 1 [vN (di p.d s x)],aU z7 p.next[s].length 3 1 (ints (nJ (jG xs) p.d FF s (x+1))),ak z9 Ue 3 1 ((bn ms)++[vN (di p.d s x)]),cM fB (fun n:Nat=>Value.int .i64 (n:Int)) mN (GC xs ms++[(((xs.getD (di p.d s x) 0:Nat):Int),ms.length)]),ak nb nc 22 1 (bW qs),ak fb fc 3 1 (ints ((FF.take i).map fun s=>((fC p s:Nat):Int))),iC,aU z4 p.next.length 3 1 (bn xs),oI z2 34 [(vI 0),(vI 0),nS,nS],oI z1 34 (pC p k)]++(bQ 3 qs))) (by rw[show dq (ints (nJ (jG xs) p.d FF s x)) x [(vI (ms.length:Int))]=ints (nJ (jG xs) p.d FF s (x+1))from(by rw[←GB wU Zh.2];simp[dq])];exact bj (ay _)) ?_
     refine TO.nl (aJ (ad (bK (b:=1) x F F (by omega)) (aS ?_)))
     exact⟨x+1,by omega,([aU z7 p.next[s].length 3 1 (ints (nJ (jG xs) p.d FF s (x+1))),ak z9 Ue 3 1 ((bn ms)++[vN (di p.d s x)]),cM fB (fun n:Nat=>Value.int .i64 (n:Int)) mN (GC xs ms++[(((xs.getD (di p.d s x) 0:Nat):Int),ms.length)]),ak nb nc 22 1 (bW qs),ak fb fc 3 1 (ints ((FF.take i).map fun s=>((fC p s:Nat):Int))),iC,aU z4 p.next.length 3 1 (bn xs),oI z2 34 [(vI 0),(vI 0),nS,nS],oI z1 34 (pC p k)]++(bQ 3 qs)),(by exact Sub.d (.k (.k (.k (.k (.k (.k (.k (.k (.k .rf)))))))))),z9,Ue,ms++[di p.d s x],by rw[QG];simp only[aL,bL,df],by omega,Zh.1.symm,⟨F,F,F,F,F,F,F,F,F,F,(av (fun n9=>Value.slice z9 n9 Ue) (@aI _ ms [di p.d s x]).symm),F,F,F,F,F,F,trivial⟩⟩
    have hold:(ms.any fun k=>jG xs k (di p.d s x))=true:=Classical.not_not.1 hc
    have aeV:((qM (jG xs) p.d (qN (jG xs) p.d i) s x).any fun k=>jG xs k (di p.d s x))=true:=by rw[←J0];exact hold
    have Zh:=L5 hv GD Mf wU aeV
    rw[←J0,hFF]at Zh
    have aiJ:gv (jG xs) (di p.d s x) FF=(if(ms.any fun k=>jG xs k (di p.d s x))=true then gv (jG xs) (di p.d s x) ms else 0):=by rw[aA hold];exact Zh.2
    refine aE (aJ (dr (az (b8 x ew bt F F (bU 0) lM (by rw[ag,hcq];exact wU)) (au (gw (v:=vN (if(ms.any fun k=>jG xs k (di p.d s x))=true then gv (jG xs) (di p.d s x) ms else 0)) (vs:=[(vN (if(ms.any fun k=>jG xs k (di p.d s x))=true then gv (jG xs) (di p.d s x) ms else 0))]) (cs:=ints (nJ (jG xs) p.d FF s x)) x 0 bt F F F F F (by simp) F (by first|(simp;omega)|(simp_all;omega)) ?_)))))
    refine cY (O':=([aU z7 p.next[s].length 3 1 (ints (nJ (jG xs) p.d FF s (x+1))),ak lb lc 3 1 (bn ms),cM fB (fun n:Nat=>Value.int .i64 (n:Int)) mN (GC xs ms),ak nb nc 22 1 (bW qs),ak fb fc 3 1 (ints ((FF.take i).map fun s=>((fC p s:Nat):Int))),iC,aU z4 p.next.length 3 1 (bn xs),oI z2 34 [(vI 0),(vI 0),nS,nS],oI z1 34 (pC p k)]++(bQ 3 qs))) (by rw[show dq (ints (nJ (jG xs) p.d FF s x)) x [(vN (if(ms.any fun k=>jG xs k (di p.d s x))=true then gv (jG xs) (di p.d s x) ms else 0))]=ints (nJ (jG xs) p.d FF s (x+1))from(by rw[←GB wU aiJ];simp[dq])];exact bj (ay _)) ?_
    refine TO.nl (aJ (ad (bK (b:=1) x F F (by omega)) (aS ?_)))
    exact⟨x+1,by omega,([aU z7 p.next[s].length 3 1 (ints (nJ (jG xs) p.d FF s (x+1))),ak lb lc 3 1 (bn ms),cM fB (fun n:Nat=>Value.int .i64 (n:Int)) mN (GC xs ms),ak nb nc 22 1 (bW qs),ak fb fc 3 1 (ints ((FF.take i).map fun s=>((fC p s:Nat):Int))),iC,aU z4 p.next.length 3 1 (bn xs),oI z2 34 [(vI 0),(vI 0),nS,nS],oI z1 34 (pC p k)]++(bQ 3 qs)),(by exact Sub.rf),lb,lc,ms,F,by omega,Zh.1.symm,(.of F)⟩
   have aiK: ¬x<p.next[s].length:=by omega
   refine bA ?_
   have Wk:(qN (jG xs) p.d i)<+:ms:=by rw[J0];exact C7 (jG xs) p.d (qN (jG xs) p.d i) s (aG x)
   have hMl:i<ms.length:=by have h9:=Wk.length_le;rw[←MP]at h9;omega
   have hMi:(bn ms)[i]? =some (vN s):=by
    obtain⟨r9,hr9⟩:=Wk
    rw[bc,←hr9,bG (by rw[←MP];exact gf),Mf];rfl
   have hFl:i<FF.length:=(List.getElem?_eq_some_iff.1 hFi).1
   refine EI (fun ρ O=> ∃(kS qz:Option Addr) (nQ qA:Nat),O=([aU z7 p.next[s].length 3 1 (ints (nJ (jG xs) p.d FF s x)),ak lb lc 3 1 (bn ms),cM fB (fun n:Nat=>Value.int .i64 (n:Int)) mN (GC xs ms),ak kS nQ 22 1 ((bW qs)++[(.slice (aD z7) p.next[s].length p.next[s].length)]),ak qz qA 3 1 ((ints ((FF.take i).map fun s=>((fC p s:Nat):Int)))++[vN (fC p s)]),oI z6 34 [(vI p.vars),(vI 0),(.slice kS (i+1) nQ),(.slice qz (i+1) qA)],aU z4 p.next.length 3 1 (bn xs),oI z2 34 [(vI 0),(vI 0),nS,nS],oI z1 34 (pC p k)]++(bQ 3 qs))∧cL [(0,(pV p k)),(1,(.pointer (aD z1))),(2,(.pointer (aD z2))),(3,vI 0),(4,vI (b7 p:Int)),(5,(.slice (aD z4) p.next.length p.next.length)),(6,vN (tt p kk)),(7,(.map (some Dz))),(8,(.slice (aD z4) p.next.length p.next.length)),(17,(.map (some mN))),(18,(.slice lb ms.length lc)),(19,(.pointer (aD z6))),(20,vN i),(21,(.slice (aD z7) p.next[s].length p.next[s].length))] ρ) ?_ ?_
   ·refine Kx [ak lb lc 3 1 (bn ms),iC,oI z2 34 [(vI 0),(vI 0),nS,nS],oI z1 34 (pC p k)] [18,20] 21 mixed F (by exact Sub.d (.k (.d (.d (.d (.k (.d (.k (.k .z))))))))) (fun _ _ _ _ h=>h) ?_
    refine eZ 0 F (by kernel_rfl) (bY gQ dQ) ?_
    refine eZ 1 F (by kernel_rfl) (bp 1 mi) ?_
    refine eZ 2 F (by kernel_rfl) aC ?_
    refine eZ 5 F (by kernel_rfl) (bY gQ cf) ?_
    refine eZ 6 F (by kernel_rfl) (bp 1 ew) ?_
    refine eZ 7 F (by kernel_rfl) (bY gQ cf) ?_
    refine eZ 8 F (by kernel_rfl) (bp 3 ew) ?_
    refine eZ 9 F (by kernel_rfl) aC ?_
    refine eZ 10 F (by kernel_rfl) aC ?_
    refine eZ 11 F (by kernel_rfl) (b8 i ew bt F F (bU 0) hMl (by rw[ag];exact hMl)) ?_
    refine eZ 12 F (by kernel_rfl) (dR nw F F (bU 0) hMi) ?_
    refine eZ 13 F (by kernel_rfl) (b8 s ew bt F F (bS h.dX) AL (by rw[ag];exact AL)) ?_
    refine eZ 14 F (by kernel_rfl) (eA nw F F h.dX (by rw[ints,bc,hv.tg kB];rfl)) ?_
    refine fW [3,15] (by kernel_rfl) F ⟨⟨_,F,F,dv (v:=(.slice (aD z7) p.next[s].length p.next[s].length)) mi cf F F F (fun tA=>⟨.inr (by exact Sub.d (.d (.k (.d (.d (.d (.k (.d (.k (.k .z)))))))))),?_⟩)⟩,⟨_,F,F,dv (v:=vN (fC p s)) ew bt F F F (fun tB=>⟨.inr (by exact Sub.d (.d (.k (.d (.d (.d (.k (.d (.k (.k .z)))))))))),?_⟩)⟩,trivial⟩ (by kernel_rfl)
    ·refine fW [4,15] (by kernel_rfl) F ⟨⟨_,F,F,dp 4 mi mi cf F F F F (by simp[tD]) (by decide) (Src.row (j:=0) F (by simp)) (by simp[fL]) (by omega) (by decide) (by decide) (fun kS nQ=>⟨.inr (by exact Sub.d (.d (.k (.d (.d (.d (.k (.d (.k (.k .z)))))))))),?_⟩)⟩,⟨_,F,F,dv (v:=vN (fC p s)) ew bt F F F (fun tB=>⟨.inr (by exact Sub.d (.d (.d (.k (.d (.d (.d (.k (.d (.k (.k .z))))))))))),?_⟩)⟩,trivial⟩ (by kernel_rfl)
     ·refine eZ 17 F (by kernel_rfl) (bY gQ dQ) ?_
      refine fW [15] (by kernel_rfl) F ⟨⟨_,F,F,dv (v:=vN (fC p s)) ew bt F F F (fun tB=>⟨.inr (by exact Sub.d (.d (.d (.k (.d (.d (.d (.k (.d (.k (.k .z))))))))))),?_⟩)⟩,trivial⟩ (by kernel_rfl)
      refine fW [16] (by kernel_rfl) F ⟨⟨_,F,F,dp 6 ew ew bt F F F F (by simp;omega) (by decide) (Src.row (j:=0) F (by simp)) (by simp[fL]) (by omega) (by decide) (by decide) (fun qz qA=>⟨.inr (by exact Sub.d (.d (.d (.k (.d (.d (.d (.k (.d (.k (.k .z))))))))))),?_⟩)⟩,trivial⟩ (by kernel_rfl)
      refine fW [18] (by kernel_rfl) F ⟨⟨_,F,F,cE [(.slice kS (i+1) nQ)] 7 dQ ⟨.inl (by decide),?_⟩ F F F F⟩,trivial⟩ (by kernel_rfl)
      refine qS 19 F (by kernel_rfl) (bY gQ cf) ?_
      refine fW [20] (by kernel_rfl) F ⟨⟨_,F,F,cE [(.slice qz (i+1) qA)] 7 cf ⟨.inl (by decide),?_⟩ F F F F⟩,trivial⟩ (by kernel_rfl)
      exact dB (by kernel_rfl) ⟨kS,qz,nQ,qA,F,(.of F)⟩ (by exact Sub.d (.d (.k (.k (.k (.k (.k (.k (.k (.k (.k .rf)))))))))))
     refine fW [4] (by kernel_rfl) F ⟨⟨_,F,F,dp 5 mi mi cf F F F F (by simp[tD]) (by decide) (Src.row (j:=1) F (by simp)) (by simp[fL]) (by omega) (by decide) (by decide) (fun kS nQ=>⟨.inr (by exact Sub.d (.d (.d (.k (.d (.d (.d (.k (.d (.k (.k .z))))))))))),?_⟩)⟩,trivial⟩ (by kernel_rfl)
     refine eZ 17 F (by kernel_rfl) (bY gQ dQ) ?_
     refine fW [16] (by kernel_rfl) F ⟨⟨_,F,F,dp 6 ew ew bt F F F F (by simp;omega) (by decide) (Src.row (j:=0) F (by simp)) (by simp[fL]) (by omega) (by decide) (by decide) (fun qz qA=>⟨.inr (by exact Sub.d (.d (.d (.k (.d (.d (.d (.k (.d (.k (.k .z))))))))))),?_⟩)⟩,trivial⟩ (by kernel_rfl)
     refine fW [18] (by kernel_rfl) F ⟨⟨_,F,F,cE [(.slice kS (i+1) nQ)] 7 dQ ⟨.inl (by decide),?_⟩ F F F F⟩,trivial⟩ (by kernel_rfl)
     refine qS 19 F (by kernel_rfl) (bY gQ cf) ?_
     refine fW [20] (by kernel_rfl) F ⟨⟨_,F,F,cE [(.slice qz (i+1) qA)] 7 cf ⟨.inl (by decide),?_⟩ F F F F⟩,trivial⟩ (by kernel_rfl)
     exact dB (by kernel_rfl) ⟨kS,qz,nQ,qA,F,(.of F)⟩ (by exact Sub.d (.d (.k (.k (.k (.k (.k (.k (.k (.k (.k .rf)))))))))))
    refine fW [3] (by kernel_rfl) F ⟨⟨_,F,F,dv (v:=(.slice (aD z7) p.next[s].length p.next[s].length)) mi cf F F F (fun tA=>⟨.inr (by exact Sub.d (.d (.d (.k (.d (.d (.d (.k (.d (.k (.k .z))))))))))),?_⟩)⟩,trivial⟩ (by kernel_rfl)
    refine fW [4] (by kernel_rfl) F ⟨⟨_,F,F,dp 5 mi mi cf F F F F (by simp[tD]) (by decide) (Src.row (j:=0) F (by simp)) (by simp[fL]) (by omega) (by decide) (by decide) (fun kS nQ=>⟨.inr (by exact Sub.d (.d (.d (.k (.d (.d (.d (.k (.d (.k (.k .z))))))))))),?_⟩)⟩,trivial⟩ (by kernel_rfl)
    refine eZ 17 F (by kernel_rfl) (bY gQ dQ) ?_
    refine fW [16] (by kernel_rfl) F ⟨⟨_,F,F,dp 6 ew ew bt F F F F (by simp;omega) (by decide) (Src.row (j:=1) F (by simp)) (by simp[fL]) (by omega) (by decide) (by decide) (fun qz qA=>⟨.inr (by exact Sub.d (.d (.d (.k (.d (.d (.d (.k (.d (.k (.k .z))))))))))),?_⟩)⟩,trivial⟩ (by kernel_rfl)
    refine fW [18] (by kernel_rfl) F ⟨⟨_,F,F,cE [(.slice kS (i+1) nQ)] 7 dQ ⟨.inl (by decide),?_⟩ F F F F⟩,trivial⟩ (by kernel_rfl)
    refine qS 19 F (by kernel_rfl) (bY gQ cf) ?_
    refine fW [20] (by kernel_rfl) F ⟨⟨_,F,F,cE [(.slice qz (i+1) qA)] 7 cf ⟨.inl (by decide),?_⟩ F F F F⟩,trivial⟩ (by kernel_rfl)
    exact dB (by kernel_rfl) ⟨kS,qz,nQ,qA,F,(.of F)⟩ (by exact Sub.d (.d (.k (.k (.k (.k (.k (.k (.k (.k (.k .rf)))))))))))
   rintro ρ O ⟨kS,qz,nQ,qA,rfl,hH⟩
   obtain⟨fy,rfl⟩:=hH.elim
   clear hH
   have si:nJ (jG xs) p.d FF s x=lL (jG xs) p.d FF s:=by rw[show x=dF p.d by omega];exact QE _ _ _ _
   have hFs:FF.take (i+1)=FF.take i++[s]:=by
    rw[an hFl]
    rw[ah hFl]at hFi
    rw[cg hFi]
   have e9:ms=qN (jG xs) p.d (i+1):=by rw[J0,show x=dF p.d by omega];exact(xt Mf).symm
   have aiL:ints ((FF.take (i+1)).map fun s=>((fC p s:Nat):Int))=(ints ((FF.take i).map fun s=>((fC p s:Nat):Int)))++[vN (fC p s)]:=by rw[hFs,aL];exact aL
   have aiM:(lL (jG xs) p.d FF s).length=p.next[s].length:=by rw[uf];simp[lL]
   refine cV (O':=[Rec.jS 3 ⟨(aD z7),p.next[s].length,lL (jG xs) p.d FF s⟩,ak lb lc 3 1 (bn ms),cM fB (fun n:Nat=>Value.int .i64 (n:Int)) mN (GC xs ms),ak kS nQ 22 1 ((bW qs)++[(.slice (aD z7) p.next[s].length p.next[s].length)]),ak qz qA 3 1 ((ints ((FF.take i).map fun s=>((fC p s:Nat):Int)))++[vN (fC p s)]),oI z6 34 [(vI p.vars),(vI 0),(.slice kS (i+1) nQ),(.slice qz (i+1) qA)],aU z4 p.next.length 3 1 (bn xs),oI z2 34 [(vI 0),(vI 0),nS,nS],oI z1 34 (pC p k)]++(bQ 3 qs)) (by rw[si];exact Sub.rf) ?_
   refine cV (O':=[ak lb lc 3 1 (bn ms),cM fB (fun n:Nat=>Value.int .i64 (n:Int)) mN (GC xs ms),ak kS nQ 22 1 (bW (qs++[⟨(aD z7),p.next[s].length,lL (jG xs) p.d FF s⟩])),ak qz qA 3 1 (ints ((FF.take (i+1)).map fun s=>((fC p s:Nat):Int))),oI z6 34 [(vI p.vars),(vI 0),(.slice kS (i+1) nQ),(.slice qz (i+1) qA)],aU z4 p.next.length 3 1 (bn xs),oI z2 34 [(vI 0),(vI 0),nS,nS],oI z1 34 (pC p k)]++(bQ 3 (qs++[⟨(aD z7),p.next[s].length,lL (jG xs) p.d FF s⟩]))) (by rw[aiL,show bW (qs++[(⟨(aD z7),p.next[s].length,lL (jG xs) p.d FF s⟩:Rec)])=bW qs++[Value.slice (aD z7) p.next[s].length p.next[s].length] by simp[Rec.val,aiM]];exact fq []) ?_
   refine aJ (az (bK (b:=1) i F F (by omega)) (ai ?_))
   exact⟨i+1,by omega,([ak lb lc 3 1 (bn ms),cM fB (fun n:Nat=>Value.int .i64 (n:Int)) mN (GC xs ms),ak kS nQ 22 1 (bW (qs++[⟨(aD z7),p.next[s].length,lL (jG xs) p.d FF s⟩])),ak qz qA 3 1 (ints ((FF.take (i+1)).map fun s=>((fC p s:Nat):Int))),oI z6 34 [(vI p.vars),(vI 0),(.slice kS (i+1) nQ),(.slice qz (i+1) qA)],aU z4 p.next.length 3 1 (bn xs),oI z2 34 [(vI 0),(vI 0),nS,nS],oI z1 34 (pC p k)]++(bQ 3 (qs++[⟨(aD z7),p.next[s].length,lL (jG xs) p.d FF s⟩]))),(by exact Sub.rf),lb,kS,qz,lc,nQ,qA,qs++[⟨(aD z7),p.next[s].length,lL (jG xs) p.d FF s⟩],ms,F,by omega,by simp[tD],by rw[hFs,aL,←pO];exact aL,e9,(.of F)⟩
  have aiN: ¬i<ls.length:=by omega
  refine bA ?_
  refine aB (eg 4 gQ cQ) (au (cE [(vI p.vars),(vI 0),(.slice nb i nc),(.slice fb i fc)] 6 cQ ?_))
  refine bm ?_
  refine dT (vI 0) (i:=6) results9 gQ F cQ F F F F ?_
  have hFe:FF=(qN (jG xs) p.d i):=hFF.symm.trans (T8 hv GD (by rw[←MP];omega) (by omega))
  have aiO:FF.length=i:=by rw[hFe,←MP];omega
  have ZA:FF.take i=FF:=aN (by omega)
  have j7:(FF.take i).length=i:=by rw[ZA];exact aiO
  have pS:kE p=nU (jG xs) p:=JQ wY GD
  have hQ:nU (jG xs) p=⟨p.vars,0,(FF.take i).map (lL (jG xs) p.d FF),(FF.take i).map fun s=>((fC p s:Nat):Int)⟩:=by
   rw[ZA];show C6 (jG xs) p (qN (jG xs) p.d p.next.length)=_;rw[hFF];rfl
  rw[pS,hQ,wY]
  exact⟨[ak nb nc 22 1 (bW qs),ak fb fc 3 1 (ints ((FF.take i).map fun s=>((fC p s:Nat):Int)))]++bQ 3 qs,(by exact Sub.d (.d (.k (.k (.d (.d (.d (.d .rf)))))))),nb,nc,fb,fc,qs,by show _=Value.tuple #[Value.agg #[vI p.vars,vI 0,.slice nb ((FF.take i).map (lL (jG xs) p.d FF)).length nc,.slice fb ((FF.take i).map fun s=>((fC p s:Nat):Int)).length fc],vI 0];rw[ag,ag,j7];rfl,F,pO⟩
 have akH: ¬ks.length=tt p kk:=by omega
 obtain⟨hxs,O4⟩:=hR.done (by omega)
 have aeS:ks.length=p_ p kk:=by rw[O4];rfl
 have j7:=T6 hv (k:=kk) (by omega)
 refine aE (aJ (az (bH (ym H0 F (mG 1)) (v':=vN ks.length) (by simp)) (ai ?_)))
 exact⟨kk+1,by show p.next.length+1-p_ p kk<_;omega,[aU z4 p.next.length 3 1 (bn xs),oI z2 34 [(vI 0),(vI 0),nS,nS],oI z1 34 (pC p k)],(by exact Sub.k (.d (.d (.k (.k .z))))),(aD z4),p.next.length,by rw[hxs];rfl,⟨F,F,F,F,F,F,(by rw[aeS];rfl),trivial⟩⟩
theorem Oo (w:World) [eT prog w] [eT prog w] (p:dG) (k:DK) (h:p6 w p k) (hB:nT p):
  cR prog 9 [pV p k] w fun v N=> ∃k9:DK,v=.tuple #[pV (kE p) k9,vI (b7 p:Int)]∧N=[pI 22 3 (kE p) k9]:=
 (Ud w p k h hB).EP fun v O' hR=>by
  obtain⟨nb,nc,fb,fc,qs,rfl,rfl,pS⟩:=hR
  exact⟨nums qs=(kE p).next,_,[],pS,(bZ _).symm,⟨nb,nc,fb,fc,qs⟩,F,F⟩
theorem Zi (w:World) [eT prog w]:cR prog 16 [] w fun v N=> ∃k':DK,v=pV eB k'∧N=[pI 22 3 eB k']:=by
 refine aF func16 F ntmps16 F ?_
 refine a8 (au (bO cQ (fun z1=>?_)))
 refine ko (au (cW (m:=2) (parts:=[(0,.const (vI 0)),(1,.const (vI 1))]) (cs:=[vI 0,vI 1]) ew bt (by decide) (by kernel_rfl) F (fun z2=>?_)))
 refine au (cW (m:=2) (parts:=[(0,.const (vI 0)),(1,.const (vI 1))]) (cs:=[vI 0,vI 1]) ew bt (by decide) (by kernel_rfl) F (fun z3=>?_))
 refine au (cW (m:=2) (parts:=[(0,.tmp 1),(1,.tmp 2)]) (cs:=[(.slice (aD z2) 2 2),(.slice (aD z3) 2 2)]) mi cf (by decide) (by kernel_rfl) F (fun z4=>?_))
 refine au (cW (m:=2) (parts:=[(0,.const (vI 2)),(1,.const (vI 3))]) (cs:=[vI 2,vI 3]) ew bt (by decide) (by kernel_rfl) F (fun z5=>?_))
 let dC:List Value:=[vI 1,(vI 0),(.slice (aD z4) 2 2),(.slice (aD z5) 2 2)]
 refine ad (dy dC nz cQ (by kernel_rfl)) (au (cE dC 4 cQ ?_))
 refine TO.nl ?_
 refine cV (O':=[aU z4 2 22 1 [(.slice (aD z2) 2 2),(.slice (aD z3) 2 2)],aU z5 2 3 1 [vI 2,vI 3],aU z2 2 3 1 [vI 0,vI 1],aU z3 2 3 1 [vI 0,vI 1],oI z1 34 dC]) (aR [1,0,1,0,0]) ?_
 obtain⟨k0,yM⟩: ∃k:DK,k=⟨some ⟨z4,0,none⟩,2,some ⟨z5,0,none⟩,2,[⟨some ⟨z2,0,none⟩,2,[0,1]⟩,⟨some ⟨z3,0,none⟩,2,[0,1]⟩]⟩:=⟨_,F⟩
 refine cV (O':=(([ak k0.nb k0.nc 22 1 (bW k0.qs),ak k0.fb k0.fc 3 1 (ints eB.dX)]++bQ 3 k0.qs)++[oI z1 34 [vI 1,(vI 0),(.slice (aD z4) 2 2),(.slice (aD z5) 2 2)]])) (by subst yM;exact Sub.rf) ?_
 refine qW (φ:=nums k0.qs=eB.next) (by subst yM;rfl) ?_
 refine cV (O':=[pI 22 3 eB k0,oI z1 34 (pC eB k0)]) (by subst yM;exact Sub.rf) ?_
 refine cF (e7 ?_)
 refine iX (i:=1) results16 gQ F cQ F F F ?_
 exact⟨[pI 22 3 eB k0],(aR [0]),k0,F,F⟩
theorem iY.two {w:World} {b1 b2:Option Addr} {c1 c2 n1 n2:Nat} {r1 r2:List Int} (h1:Sl w b1 (ints r1)) (h2:Sl w b2 (ints r2)) (e1:r1.length=n1) (e2:r2.length=n2):iY w [.slice b1 n1 c1,.slice b2 n2 c2] [r1,r2]:=by
 subst e1;subst e2
 refine⟨F,fun i r hr=>?_⟩
 match i with
 |0=>simp at hr;subst hr;exact⟨b1,c1,F,h1⟩
 |1=>simp at hr;subst hr;exact⟨b2,c2,F,h2⟩
 |i+2=>simp at hr
theorem GF:wW.dX=[3,4]:=rfl
theorem Zj:qt eB lz=0:=by decide+kernel
theorem aeW:qt eB lb=0:=by decide+kernel
theorem Wl:qt wW lb=0:=by decide+kernel
theorem aiP:DJ eB lz=true:=bz ⟨Zj,by unfold wP;rw[aA Zj,Gh]⟩
theorem aiQ:DJ eB lb=false:=bT fun h=>by
 have h2:=h.2
 unfold wP at h2
 rw[aA aeW,Qj]at h2;exact absurd h2 (by decide)
theorem aiR:wP wW lb=4:=by unfold wP;rw[aA Wl,aeu]
theorem aiS:DR lz:=⟨by decide,by decide,by decide,by decide⟩
theorem aeX:DR lb:=⟨by decide,by decide,by decide,by decide⟩
theorem aeY:DM eB wW=0:=Gm.2 ⟨om,TW,F⟩
theorem Zk {l:La} {b:Bool} {e:Nat} (h:DiR eB wW l b e):b=true∧e=0∧0<l.loop.length:=by
 rcases h with⟨h,_⟩|⟨_,h1,h2,i,j,_,_,_,pre,loop,_,hc⟩|⟨_,_,_,_,h⟩
 ·exact absurd aeY h
 ·exact⟨h2,h1,hc.can.pos⟩
 ·exact absurd Do h
theorem aeZ (w:World) [eT prog w] [eT prog w] (k:DK) (h:p6 w eB k) (k2:DK) (h2:p6 w wW k2):
  cR prog 19 [pV eB k,pV wW k2] w fun v N=> ∃(l:La) (kl:LK),v=.tuple #[lV l kl,.bool true,vI 0]∧N=[lI 5 l kl]∧0<l.loop.length:=
 cZ.mono (Zf w eB k h wW k2 h2 om.c TW.c (fun _=>by decide)) fun v N ⟨l,kl,b,e,hv,hN,hd⟩=>by
  obtain⟨rfl,rfl,h0⟩:=Zk hd
  exact⟨l,kl,hv,hN,h0⟩
theorem ae0 (w:World) [eT prog w] [eT prog w] (k:DK) (h:p6 w (tm 1) k):
  cR prog 20 [pV (tm 1) k] w fun v N=> ∃(l:La) (kl:LK),v=.tuple #[lV l kl,vI 9]∧N=[lI 5 l kl]:=
 cZ.mono (Ze w (tm 1) k h (tp (v:=1) (by decide) (by decide)).c) fun v N ⟨l,kl,e,hv,hN,hd⟩=>by
  have h1:b7 (tm 1)=0:=de.2 (tp (v:=1) (by decide) (by decide))
  rcases hd with⟨h2,_⟩|⟨_,_,k9,h3,h4,h5⟩|⟨_,rfl,_⟩
  ·exact absurd h1 h2
  ·obtain⟨pre,loop,hF,_⟩:=h5
   obtain⟨v9,DC,ho⟩:=hF.one
   have hV:=tp (v:=1) (by decide) (by decide)
   have h6:=zl hV loop _ (lU hV.val hV.st pre hF.wp) hF.wl v9 DC
   have e0:(tm 1).next.length=1:=rfl
   have e:v9=0:=by omega
   subst e
   have h7:fC (tm 1) 0=k9:=of_decide_eq_true ho
   have h8:fC (tm 1) 0=1:=rfl
   omega
  ·exact⟨l,kl,hv,hN⟩
theorem CD (w:World) [eT prog w]:cR prog 6 [] w fun v N=>v=.bool true∧N=[]:=by
 refine aF func6 F ntmps6 F ?_
 obtain⟨R,hR⟩: ∃m,un eB=m:=⟨_,F⟩
 have hRp:R.dX=[0,1]:=hR▸Qk
 refine a8 (ai (a8 (TO.lc ac6 (aW Zi) ?_)))
 rintro vr O' ⟨N,rfl,k0,rfl,rfl⟩
 refine au (bO cQ (fun z1=>?_))
 refine au (cE ((pC eB k0)) 0 cQ ?_)
 refine ko (au (cW (m:=2) (parts:=[(0,.const (.int .u8 1)),(1,.const (.int .u8 1))]) (cs:=[.int .u8 1,.int .u8 1]) r5 fS (by decide) (by kernel_rfl) F (fun z2=>?_)))
 refine au (dv (v:=.int .u8 0) r5 fS F F F (fun z3=>?_))
 let jR:List Value:=[(.slice (aD z2) 2 2),(.slice (aD z3) 1 1)]
 refine ad (dy jR mF dD (by kernel_rfl)) (au (cW (m:=2) (parts:=[(0,.const (.int .u8 0)),(1,.const (.int .u8 1))]) (cs:=[.int .u8 0,.int .u8 1]) r5 fS (by decide) (by kernel_rfl) F (fun z4=>?_)))
 let gn:Value:=(.slice (aD z4) 2 2)
 refine ad (dy [nS,gn] mF dD (by kernel_rfl)) (au (bO dD (fun z5=>?_)))
 refine au (bO dD (fun z6=>?_))
 refine au (cE jR 1 dD ?_)
 refine au (cE [nS,gn] 0 dD ?_)
 refine TO.nl (T.dH 5 1 ?_)
 let eE:Lx.Item:=oI z1 34 (pC eB k0)
 refine cV (O':=[aU z2 2 5 1 [.int .u8 1,.int .u8 1],aU z3 1 5 1 [.int .u8 0],ak none 0 5 1 [],aU z4 2 5 1 [.int .u8 0,.int .u8 1],oI z6 29 [nS,gn],oI z5 29 jR,eE,pI 22 3 eB k0]) (aR [5,4,0,2,0,0,0,0]) ?_
 obtain⟨kz,hkz⟩: ∃k:LK,k=⟨some ⟨z2,0,none⟩,2,some ⟨z3,0,none⟩,1⟩:=⟨_,F⟩
 obtain⟨kb,UC⟩: ∃k:LK,k=⟨none,0,some ⟨z4,0,none⟩,2⟩:=⟨_,F⟩
 let gS:Lx.Item:=oI z6 29 (lC lb kb)
 let iC:Lx.Item:=oI z5 29 (lC lz kz)
 let jT:List Lx.Item:=[ak kb.pb kb.pc 5 1 (ek lb.pre),ak kb.lb kb.lc 5 1 (ek lb.loop)]
 refine cV (O':=([ak kz.pb kz.pc 5 1 (ek lz.pre),ak kz.lb kz.lc 5 1 (ek lz.loop)]++(jT++[gS,iC,eE,pI 22 3 eB k0]))) (by subst hkz;subst UC;exact Sub.rf) ?_
 refine qW (φ:=True) trivial ?_
 refine cV (O':=(jT++(lI 5 lz kz::[gS,iC,eE,pI 22 3 eB k0]))) (by exact Sub.dm [lI 5 lz kz] _ (Sub.dm [lI 5 lz kz] _ Sub.rf)) ?_
 refine qW (φ:=True) trivial ?_
 refine cV (O':=[lI 5 lb kb,lI 5 lz kz,gS,iC,eE,pI 22 3 eB k0]) Sub.rf ?_
 let fN:Value:=(.pointer (aD z1))
 let gG:Value:=(.pointer (aD z5))
 let im:Value:=(.pointer (aD z6))
 refine o5 [lI 5 lb kb,lI 5 lz kz,gS,iC,eE,pI 22 3 eB k0] [(0,.bool false),(1,fN),(2,gG),(3,im)] F ⟨F,F,F,F,trivial⟩ (fun fy=>?_)
 refine aB (eg 4 gQ cQ) (ad (eg 3 wI dD) ?_)
 refine TO.lc Jm (aK fun w1 hI=>(haveI:=j6 hI;(show cR _ _ _ _ _ from by
   have h9:=Df w1 eB k0 (hI.CE (II:=22) (I:=3) (mG 5)) om.c lz kz (hI.atL (U8:=5) (mG 1)) aiS
   rw[aiP,Zj]at h9
   exact h9))) ?_
 rintro vr O' ⟨N,rfl,rfl,rfl⟩
 refine az (bX _) (ad (bX _) (bh (bh ?_)))
 let gk:List Lx.Item:=[oI z6 29 (lC lb kb),oI z5 29 (lC lz kz),eE,lI 5 lb kb,lI 5 lz kz,pI 22 3 eB k0]
 refine cY (O':=gk) (aR [2,2,2,0,0,0]) ?_
 refine TO.nl (aB (eg 2 gQ cQ) (ad (eg 0 wI dD) ?_))
 refine TO.lc Jm (aK fun w1 hI=>(haveI:=j6 hI;(show cR _ _ _ _ _ from by
   have h9:=Df w1 eB k0 (hI.CE (II:=22) (I:=3) (mG 5)) om.c lb kb (hI.atL (U8:=5) (mG 3)) aeX
   rw[aiQ,aeW]at h9
   exact h9))) ?_
 rintro vr O' ⟨N,rfl,rfl,rfl⟩
 refine az (bX _) (ad (bX _) (bh (bh ?_)))
 refine cY (O':=gk) (aR [0,0,0,0,0,0]) ?_
 refine TO.nl ?_
 refine o5 gk [(0,.bool false),(1,fN),(2,gG),(3,im),(4,.bool true),(5,vI 0),(6,.bool false),(7,vI 0)] F (.of F) (fun fy=>?_)
 refine aB (eg 2 gQ cQ) ?_
 refine TO.lc acT (aK fun w1 hI=>(haveI:=j6 hI;(show cR _ _ _ _ _ from by
   have h9:=Vv w1 eB k0 (hI.CE (II:=22) (I:=3) (mG 5)) om.c
   rw[hR,zI]at h9
   exact h9))) ?_
 rintro vr O' ⟨N,rfl,k1,rfl,rfl⟩
 refine az (bX _) (ad (bX _) (au (bO cQ (fun z7=>?_))))
 refine au (cE ((pC R k1)) 0 cQ ?_)
 refine bh ?_
 refine cY (O':=[oI z7 34 (pC R k1),gS,iC,eE,pI 22 3 R k1,lI 5 lb kb,lI 5 lz kz,pI 22 3 eB k0]) (aR [0,1,1,1,0,0,0,0]) ?_
 refine TO.nl (aB (eg 3 gQ cQ) ?_)
 refine TO.lc Vy (aK fun w1 hI=>(haveI:=j6 hI;(show cR _ _ _ _ _ from by
   have h9:=Vw w1 eB k0 (hI.CE (II:=22) (I:=3) (mG 7)) om.c
   rw[Gi.1,Gi.2]at h9
   exact h9))) ?_
 rintro vr O' ⟨N,rfl,k2,rfl,rfl⟩
 refine az (bX _) (ad (bX _) (au (bO cQ (fun z8=>?_))))
 refine au (cE ((pC wW k2)) 0 cQ ?_)
 refine bh ?_
 let dM:List Lx.Item:=[oI z8 34 (pC wW k2),oI z7 34 (pC R k1),oI z6 29 (lC lb kb),oI z5 29 (lC lz kz),oI z1 34 (pC eB k0),pI 22 3 wW k2,pI 22 3 R k1,lI 5 lb kb,lI 5 lz kz,pI 22 3 eB k0]
 refine cY (O':=dM) (aR [0,1,1,1,1,0,0,0,0,0]) ?_
 refine TO.nl ?_
 refine o5 dM [(0,.bool false),(1,fN),(2,gG),(3,im),(4,.bool true),(5,vI 0),(6,.bool false),(7,vI 0),(8,(.pointer (aD z7))),(9,vI 0),(10,(.pointer (aD z8))),(11,vI 0)] F (.of F) (fun fy=>?_)
 refine aB (eg 0 gQ cQ) (ad (eg 2 wI dD) ?_)
 refine TO.lc VD (aK fun w1 hI=>(haveI:=j6 hI;(show cR _ _ _ _ _ from by
   have h9:=PH w1 wW k2 (hI.CE (II:=22) (I:=3) (mG 5)) TW.c lb kb (hI.atL (U8:=5) (mG 7)) aeX
   rw[aiR,Wl]at h9
   exact h9))) ?_
 rintro vr O' ⟨N,rfl,rfl,rfl⟩
 refine az (bX _) (ad (bX _) (bh (bh ?_)))
 refine cY (O':=dM) (aR [0,0,0,0,0,0,0,0,0,0]) ?_
 refine TO.nl (aB (eg 4 gQ cQ) (ad (eg 0 gQ cQ) (TO.lc ac7 (aK fun w1 hI=>(haveI:=j6 hI;aeZ w1 k0 (hI.CE (II:=22) (I:=3) (mG 9)) k2 (hI.CE (II:=22) (I:=3) (mG 5)))) ?_)))
 rintro vr O' ⟨N,rfl,l9,Ds,rfl,rfl,tJ⟩
 refine az (bX _) (ad (bX _) (ad (bX _) (au (bO dD (fun z9=>?_)))))
 refine au (cE ((lC l9 Ds)) 0 dD ?_)
 refine bh (bh ?_)
 let gC:List Lx.Item:=[oI z9 29 (lC l9 Ds),oI z8 34 (pC wW k2),oI z7 34 (pC R k1),oI z6 29 (lC lb kb),oI z5 29 (lC lz kz),eE,lI 5 l9 Ds,pI 22 3 wW k2,pI 22 3 R k1,lI 5 lb kb,lI 5 lz kz,pI 22 3 eB k0]
 refine cY (O':=gC) (aR [0,1,1,1,1,1,0,0,0,0,0,0]) ?_
 refine TO.nl ?_
 refine o5 gC [(0,.bool false),(1,fN),(2,gG),(3,im),(4,.bool true),(5,vI 0),(6,.bool false),(7,vI 0),(8,(.pointer (aD z7))),(9,vI 0),(10,(.pointer (aD z8))),(11,vI 0),(12,vI 4),(13,vI 0),(14,(.pointer (aD z9))),(15,.bool true),(16,vI 0)] F (.of F) (fun fy=>?_)
 refine a8 (au (cW (m:=2) (parts:=[(0,.const (vI 1)),(1,.const (vI 1))]) (cs:=[vI 1,vI 1]) ew bt (by decide) (by kernel_rfl) F (fun iF=>?_)))
 refine au (cW (m:=2) (parts:=[(0,.const (vI 0)),(1,.const (vI 0))]) (cs:=[vI 0,vI 0]) ew bt (by decide) (by kernel_rfl) F (fun gO=>?_))
 refine au (cW (m:=2) (parts:=[(0,.tmp 63),(1,.tmp 64)]) (cs:=[(.slice (aD iF) 2 2),(.slice (aD gO) 2 2)]) mi cf (by decide) (by kernel_rfl) F (fun z12=>?_))
 refine au (cW (m:=2) (parts:=[(0,.const (vI 1)),(1,.const (vI 1))]) (cs:=[vI 1,vI 1]) ew bt (by decide) (by kernel_rfl) F (fun KJ=>?_))
 refine ad (dy [vI 1,(vI 0),(.slice (aD z12) 2 2),(.slice (aD KJ) 2 2)] nz cQ (by kernel_rfl)) ?_
 refine TO.lc acV (aK fun w1 hI=>(haveI:=j6 hI;(show cR _ _ _ _ _ from by
   have h9:=Oo w1 qZ (⟨some ⟨z12,0,none⟩,2,some ⟨KJ,0,none⟩,2,[⟨some ⟨iF,0,none⟩,2,[1,1]⟩,⟨some ⟨gO,0,none⟩,2,[0,0]⟩]⟩) ⟨hI.ga (mG 1),iY.two (hI.ga (cs:=ints [1,1]) (mG 3)) (hI.ga (cs:=ints [0,0]) (mG 2)) F F,(hI.ga (cs:=ints [1,1]) (mG 0))⟩ Y1.c
   rw[Y3,Ql]at h9
   exact h9))) ?_
 rintro vr O' ⟨N,rfl,k3,rfl,rfl⟩
 refine az (bX _) (ad (bX _) (au (bO cQ (fun re=>?_))))
 refine au (cE ((pC (tm 1) k3)) 0 cQ ?_)
 refine bh ?_
 let fo:List Lx.Item:=[oI re 34 (pC (tm 1) k3),oI z9 29 (lC l9 Ds),oI z8 34 (pC wW k2),oI z7 34 (pC R k1),oI z6 29 (lC lb kb),oI z5 29 (lC lz kz),eE,pI 22 3 (tm 1) k3,lI 5 l9 Ds,pI 22 3 wW k2,pI 22 3 R k1,lI 5 lb kb,lI 5 lz kz,pI 22 3 eB k0]
 refine cY (O':=fo) (aR [0,5,5,5,5,5,5,0,4,4,4,4,4,4]) ?_
 refine TO.nl ?_
 refine o5 fo [(0,.bool false),(1,fN),(2,gG),(3,im),(4,.bool true),(5,vI 0),(6,.bool false),(7,vI 0),(8,(.pointer (aD z7))),(9,vI 0),(10,(.pointer (aD z8))),(11,vI 0),(12,vI 4),(13,vI 0),(14,(.pointer (aD z9))),(15,.bool true),(16,vI 0),(17,(.pointer (aD re))),(18,vI 0)] F (.of F) (fun fy=>?_)
 refine aB (eg 0 gQ cQ) (TO.lc ac8 (aK fun w1 hI=>(haveI:=j6 hI;ae0 w1 k3 (hI.CE (II:=22) (I:=3) (mG 7)))) ?_)
 rintro vr O' ⟨N,rfl,l8,kl8,rfl,rfl⟩
 refine az (bX _) (ad (bX _) (au (bO dD (fun DH=>?_))))
 refine au (cE ((lC l8 kl8)) 0 dD ?_)
 refine bh ?_
 refine cY (O':=[oI DH 29 (lC l8 kl8),oI re 34 (pC (tm 1) k3),oI z9 29 (lC l9 Ds),oI z8 34 (pC wW k2),oI z7 34 (pC R k1),gS,iC,eE,lI 5 l8 kl8,pI 22 3 (tm 1) k3,lI 5 l9 Ds,pI 22 3 wW k2,pI 22 3 R k1,lI 5 lb kb,lI 5 lz kz,pI 22 3 eB k0]) (aR [0,1,1,1,1,1,1,1,0,0,0,0,0,0,0,0]) ?_
 refine TO.nl (bI (aQ (ax aC (ax gM (ad bR (aQ (ax aC (ax (cm en (by first|rfl|decide|omega)) (ad bR (aQ ?_))))))))))
 refine ax aC (ax (cm en (by first|rfl|decide|omega)) (ad bR (aQ (ax aC (ax (cm en (by first|rfl|decide|omega)) (ad bR (aQ (ax (bY gQ cf) (ax (bp 4 ew) ?_)))))))))
 refine fD F F F (cW (m:=2) (parts:=[(0,.const (vI 0)),(1,.const (vI 1))]) (cs:=[vI 0,vI 1]) ew bt (by decide) (by kernel_rfl) F (fun Af=>?_))
 refine fD F F F (dV VE (aK fun w1 hI=>(haveI:=j6 hI;(show cR _ _ _ _ _ from by
   have h9:=Bf w1 k1.fb (aD Af) k1.fc 2 R.dX [0,1] (hI.CE (II:=22) (I:=3) (mG 13)).dX (hI.ga (cs:=ints [0,1]) (mG 0)) (by rw[hRp];decide)
   rw[bz hRp]at h9
   exact h9))) ?_)
 rintro vr O' ⟨N,rfl,rfl,rfl⟩
 refine ad bR (aQ (ax aC (ax (cm en (by first|rfl|decide|omega)) (ad bR (aQ (ax (bY gQ cf) (ax (bp 4 ew) ?_)))))))
 refine fD F F F (cW (m:=2) (parts:=[(0,.const (vI 3)),(1,.const (vI 4))]) (cs:=[vI 3,vI 4]) ew bt (by decide) (by kernel_rfl) F (fun z17=>?_))
 refine fD F F F (dV VE (aK fun w1 hI=>(haveI:=j6 hI;(show cR _ _ _ _ _ from by
   have h9:=Bf w1 k2.fb (aD z17) k2.fc 2 wW.dX [3,4] (hI.CE (II:=22) (I:=3) (mG 13)).dX (hI.ga (cs:=ints [3,4]) (mG 0)) (by rw[GF];decide)
   rw[bz GF]at h9
   exact h9))) ?_)
 rintro vr O' ⟨N,rfl,rfl,rfl⟩
 refine ad bR (aQ (ax aC (ax (cm en (by first|rfl|decide|omega)) (ad bR (aQ (ax aC (ax (cm en (by first|rfl|decide|omega)) (ad bR (aQ (ax aC ?_))))))))))
 refine ax (cm en (by first|rfl|decide|omega)) (ad bR (aQ (ax aC (ad bR (aQ (ax (bY wI fX) (ax (bp 4 r5) (ax (bV r5) (ax (cm fg (by first|rfl|decide|omega)) ?_)))))))))
 refine ad bR (aQ (ax aC (ax (cm en (by first|rfl|decide|omega)) (ad bR (aQ (ax (bY gQ dQ) (ax (bp 3 mi) (ax (bV mi) (ax (cm en (by first|rfl|decide|omega)) ?_)))))))))
 refine ad bR (aQ (ax aC (ax (cm en (by first|rfl|decide|omega)) (ad bR (bm ?_)))))
 refine aM (.bool true) results6 F ?_
 exact⟨[],Sub.z,F,F⟩
theorem ahp (w:World) [eT prog w] (b:Bu) (sb eb tb:Option Addr) (sc ec tc:Nat) (vs:List Value) (h:nL w b sb eb tb vs) (hB:Aw b) (hE:b.ao.length≤100000) (hS:cC b=0→b.ae≤5∧b.aP.length≤2) [eT prog w]:
  cR prog 7 [.agg (bf b sb sc eb ec tb tc).toArray,vI 300] w fun v N=> ∃(p:dG) (k9:DK) (e:Nat),v=.tuple #[pV p k9,vI (e:Int)]∧N=[pI 22 3 p k9]∧(e=0→Sx b p):=
 (acv w b sb eb tb sc ec tc vs h hB hE hS).EP fun v O' hR=>by
  obtain⟨p,nb,fb,nc,fc,qs,e,rfl,rfl,pS,hd⟩:=hR
  exact⟨nums qs=p.next,_,[],pS,(bZ _).symm,p,⟨nb,nc,fb,fc,qs⟩,e,F,F,hd⟩
theorem WQ (w:World) [eT prog w] (b:Bu) (sb eb tb:Option Addr) (sc ec tc:Nat) (vs:List Value) (h:nL w b sb eb tb vs) (sf: ∀e∈b.ao,e.pos<256∧e.neg<256) (JZ:b.aP.length<9223372036854775807) (l:La) (kl:LK) (hl:Q4 w l kl) (hp8: ∀x∈l.pre,x<256) (hl8: ∀x∈l.loop,x<256):
  cR prog 3 [.agg (bf b sb sc eb ec tb tc).toArray,lV l kl] w fun v N=>v=.bool true∧N=[]:=by
 refine aF func3 F ntmps3 F ?_
 refine a8 (au (e5 [(vI b.vars),(vI b.ae),(.slice sb b.start.length sc),(.slice eb b.ao.length ec),(.slice tb b.aP.length tc)] (fun z1=>?_)))
 refine au (e5 ((lC l kl)) (fun z2=>?_))
 refine bh (bJ (ad (eg 1 vn eF) (au (cW (m:=1) (parts:=[(0,_)]) (cs:=[(vI b.vars),(vI b.ae),(.slice sb b.start.length sc),(.slice eb b.ao.length ec),(.slice tb b.aP.length tc)]) ahq eF (by decide) (by kernel_rfl) F (fun z3=>?_)))))
 let dC:Lx.Item:=aU z3 1 26 5 [(vI b.vars),(vI b.ae),(.slice sb b.start.length sc),(.slice eb b.ao.length ec),(.slice tb b.aP.length tc)]
 let dM:Lx.Item:=oI z1 26 [(vI b.vars),(vI b.ae),(.slice sb b.start.length sc),(.slice eb b.ao.length ec),(.slice tb b.aP.length tc)]
 let gk:Lx.Item:=oI z2 29 (lC l kl)
 have acQ:=fun(w1:World) (hI:Inv w [dC,gk,dM] w1)=>(haveI:=j6 hI;(show cR _ _ _ _ _ from by
   have h9:=SI w1 (aD z3) 1 [⟨b,sb,sc,eb,ec,tb,tc,vs⟩] (hI.ga (cs:=G2 [⟨b,sb,sc,eb,ec,tb,tc,vs⟩]) (mG 0)) (fun q pS=>by rw[List.mem_singleton.1 pS];exact hI.bu h) (by show 1<9223372036854775807;decide) (fun q pS=>by rw[List.mem_singleton.1 pS];exact JZ) (fun q pS=>by rw[List.mem_singleton.1 pS];exact sf)
   rw[show([⟨b,sb,sc,eb,ec,tb,tc,vs⟩]:List oJ).any (fun q=>ul q.b)=ul b by simp]at h9;exact h9))
 refine TO.lc ahr (aK acQ) ?_
 clear acQ
 rintro vr O' ⟨N,rfl,rfl,rfl⟩
 by_cases ZG:ul b=true
 ·refine ad (dE aC (ZG)) ?_
  refine dt (dj (ad bR (aQ (cP ?_))))
  refine cP (ad bR (aQ (dj (ad bR ?_))))
  refine TO.nl ?_
  refine cJ ?_
  refine a8 ?_
  have xJ:=fun(w1:World) (hI:Inv w [dC,gk,dM] w1)=>(haveI:=j6 hI;CD w1)
  refine TO.lc SK (aK xJ) ?_
  clear xJ
  rintro vr O' ⟨N,rfl,rfl,rfl⟩
  refine bm ?_
  refine aM (.bool true) results3 F ?_
  exact⟨[],bj (aX _),F,F⟩
 refine ad (dE aC (Bool.eq_false_iff.2 ZG)) (ax (eg 1 wI dD) ?_)
 refine fD F F F (cW (m:=1) (parts:=[(0,_)]) (cs:=(lC l kl)) ahs dD (by decide) (by kernel_rfl) F (fun z4=>?_))
 let gC:List Lx.Item:=[aU z4 1 29 2 (lC l kl),dC,oI z2 29 (lC l kl),dM]
 have Om:=fun(w1:World) (hI:Inv w gC w1)=>(haveI:=j6 hI;(show cR _ _ _ _ _ from by
   have h9:=X4 w1 (aD z4) 1 [⟨l,kl.pb,kl.pc,kl.lb,kl.lc⟩] (hI.ga (cs:=SL [⟨l,kl.pb,kl.pc,kl.lb,kl.lc⟩]) (mG 0)) (by show 1<9223372036854775807;decide)
   rw[show([⟨l,kl.pb,kl.pc,kl.lb,kl.lc⟩]:List sA).any (fun q=>Lx.um q.l)=Lx.um l by simp]at h9
   exact h9))
 refine fD F F F (dV aht (aK Om) ?_)
 clear Om
 rintro vr O' ⟨N,rfl,rfl,rfl⟩
 refine ad ca ?_
 by_cases h21:Lx.um l=true
 ·refine ad (dE aC (h21)) ?_
  refine cP (cP ?_)
  refine ad bR (aQ (dj (bF bR ?_)))
  refine cJ ?_
  refine a8 ?_
  have xJ:=fun(w1:World) (hI:Inv w gC w1)=>(haveI:=j6 hI;CD w1)
  refine TO.lc SK (aK xJ) ?_
  clear xJ
  rintro vr O' ⟨N,rfl,rfl,rfl⟩
  refine bm ?_
  refine aM (.bool true) results3 F ?_
  exact⟨[],bj (aX _),F,F⟩
 refine ad (dE aC (Bool.eq_false_iff.2 h21)) (ax (bY wI fX) (ax (bp 2 r5) (ax (bV r5) (ax (bY wI fX) (ax (bp 2 r5) (ax (bV r5) (ax (jJ F F (by have h9:=Bc h21 hp8 hl8;have:=h9.pre;have:=h9.loop;omega)) ?_)))))))
 by_cases h31:((l.pre.length:Nat):Int)+((l.loop.length:Nat):Int)>16
 ·refine ax (cm fg h31) ?_
  refine ad ca (aQ (dj (bF bR ?_)))
  refine cJ ?_
  refine a8 ?_
  have xJ:=fun(w1:World) (hI:Inv w gC w1)=>(haveI:=j6 hI;CD w1)
  refine TO.lc SK (aK xJ) ?_
  clear xJ
  rintro vr O' ⟨N,rfl,rfl,rfl⟩
  refine bm ?_
  refine aM (.bool true) results3 F ?_
  exact⟨[],bj (aX _),F,F⟩
 refine ax (cD fg h31) (ad ca (aQ ?_))
 have Fb:=fun(w1:World) (hI:Inv w gC w1)=>(haveI:=j6 hI;CD w1)
 refine fD F F F (dV SK (aK Fb) ?_)
 clear Fb
 rintro vr O' ⟨N,rfl,rfl,rfl⟩
 refine ax gM (bF ca (cK (aE (ba ?_))))
 have hnb:=SM ZG
 have hB:Aw b:=Fa hnb.1 sf
 have Zm:=(Fc hnb.1).2.1
 have hE:b.ao.length≤100000:=by omega
 have hS:=hnb.2
 have hL:DR l:=Bc h21 hp8 hl8
 refine aJ (ad (eg 3 vn eF) ?_)
 have NN:=fun(w1:World) (hI:Inv w gC w1)=>(haveI:=j6 hI;ahp w1 b sb eb tb sc ec tc vs (hI.bu h) hB hE hS)
 refine TO.lc ahv (aK NN) ?_
 clear NN
 rintro vr O' ⟨N,rfl,p,k1,e9,rfl,rfl,ahw⟩
 refine az (bX _) (ad (bX _) (au (bO cQ (fun z5=>?_))))
 refine au (cE ((pC p k1)) 0 cQ ?_)
 refine bh (bJ (aQ (bF gB (aH F (fun hc=>?_) (fun hc=>?_)))))
 ·have Vt:e9≠0:=by omega
  refine a8 (bm ?_)
  refine aM (.bool true) results3 F ?_
  exact⟨[],bj (aX _),F,F⟩
 have Vu: ¬e9≠0:=by omega
 have Nf:e9=0:=by omega
 have hdr:=ahw Nf
 have wH:=hdr.ZH
 have hP:nT p:=(de.1 wH).c
 obtain⟨R,eR⟩: ∃z,un p=z:=⟨_,F⟩
 obtain⟨Q,eQ⟩: ∃z,kE R=z:=⟨_,F⟩
 obtain⟨C,eC⟩: ∃z,xf Q=z:=⟨_,F⟩
 have W_:b7 R=0:=de.2 (eR▸Be wH)
 have hR:nT R:=(de.1 W_).c
 have si:b7 Q=0:=eQ▸(HO W_).1
 have hQ:nT Q:=(de.1 si).c
 have hC:nT C:=eC▸X5 hQ
 refine aE (aB (eg 0 gQ cQ) ?_)
 have acS:=fun(w1:World) (hI:Inv w [oI z5 34 (pC p k1),pI 22 3 p k1,aU z4 1 29 2 (lC l kl),dC,gk,dM] w1)=>(haveI:=j6 hI;(show cR _ _ _ _ _ from by
   have h9:=Vv w1 p k1 (hI.CE (II:=22) (I:=3) (mG 1)) hP
   rw[eR,wH]at h9
   exact h9))
 refine TO.lc acT (aK acS) ?_
 clear acS
 rintro vr O' ⟨N,rfl,SN,rfl,rfl⟩
 refine az (bX _) (ad (bX _) (au (bO cQ (fun z6=>?_))))
 refine au (cE ((pC R SN)) 0 cQ ?_)
 refine ai (aB (eg 0 gQ cQ) ?_)
 have acU:=fun(w1:World) (hI:Inv w [oI z6 34 (pC R SN),pI 22 3 R SN,oI z5 34 (pC p k1),pI 22 3 p k1,aU z4 1 29 2 (lC l kl),dC,gk,dM] w1)=>(haveI:=j6 hI;(show cR _ _ _ _ _ from by
   have h9:=Oo w1 R SN (hI.CE (II:=22) (I:=3) (mG 1)) hR
   rw[eQ,W_]at h9
   exact h9))
 refine TO.lc acV (aK acU) ?_
 clear acU
 rintro vr O' ⟨N,rfl,k3,rfl,rfl⟩
 refine az (bX _) (ad (bX _) (au (bO cQ (fun z7=>?_))))
 refine au (cE ((pC Q k3)) 0 cQ ?_)
 refine ai (aB (eg 9 vn eF) (ad (eg 8 wI dD) ?_))
 let fo:List Lx.Item:=[oI z7 34 (pC Q k3),pI 22 3 Q k3,oI z6 34 (pC R SN),pI 22 3 R SN,oI z5 34 (pC p k1),pI 22 3 p k1,aU z4 1 29 2 (lC l kl),dC,oI z2 29 (lC l kl),dM]
 have xK:=fun(w1:World) (hI:Inv w fo w1)=>(haveI:=j6 hI;Ms w1 b sb eb tb sc ec tc vs (hI.bu h) hB l kl.pb kl.lb kl.pc kl.lc (hI.atU hl) hL (by omega))
 refine TO.lc acX (aK xK) ?_
 clear xK
 rintro vr O' ⟨N,rfl,rfl,rfl⟩
 refine az (bX _) (ad (bX _) (bh (bh (bJ (ad (eg 4 gQ cQ) ?_)))))
 have acY:=fun(w1:World) (hI:Inv w fo w1)=>(haveI:=j6 hI;(show cR _ _ _ _ _ from by
   have h9:=mj w1 p k1 (hI.CE (II:=22) (I:=3) (mG 5)) hP
   rw[wH]at h9
   exact h9))
 refine TO.lc wh (aK acY) ?_
 clear acY
 rintro vr O' ⟨N,rfl,rfl,rfl⟩
 refine ad (cD gB (fun h9=>h9 F)) (aQ (ax aC (ax (cD gB (fun h9=>h9 F)) (ad ca (aQ (ax aC (ax (cD gB (fun h9=>h9 F)) (bF ca ?_))))))))
 refine cK (aE (aB (eg 0 gQ cQ) ?_))
 have Oq:=fun(w1:World) (hI:Inv w fo w1)=>(haveI:=j6 hI;(show cR _ _ _ _ _ from by
   have h9:=Vw w1 Q k3 (hI.CE (II:=22) (I:=3) (mG 1)) hQ
   rw[eC]at h9
   exact h9))
 refine TO.lc Vy (aK Oq) ?_
 clear Oq
 rintro vr O' ⟨N,rfl,k4,rfl,rfl⟩
 refine az (bX _) (ad (bX _) (au (bO cQ (fun z8=>?_))))
 refine au (cE ((pC C k4)) 0 cQ ?_)
 refine bh (bJ (aQ (bF gB (aH F (fun hc=>?_) (fun hc=>?_)))))
 ·have acE:DP b l≠0:=by omega
  refine a8 (bm ?_)
  refine aM (.bool true) results3 F ?_
  exact⟨[],bj (aX _),F,F⟩
 have acI: ¬DP b l≠0:=by omega
 have hae:=KW (b:=b) (l:=l) (by omega)
 have SO:DJ p l=nf b l∧DJ R l=nf b l∧DJ Q l=nf b l∧(wJ Q=0→DJ C l=!nf b l):=by
  subst eC eQ eR
  exact KX hdr hae.1 hae.2
 refine aE (ba ?_)
 
 refine aJ (ad (eg 6 gQ cQ) (ad (eg 10 wI dD) ?_))
 let eE:List Lx.Item:=[oI z8 34 (pC C k4),pI 22 3 C k4,oI z7 34 (pC Q k3),pI 22 3 Q k3,oI z6 34 (pC R SN),pI 22 3 R SN,oI z5 34 (pC p k1),pI 22 3 p k1,aU z4 1 29 2 (lC l kl),dC,oI z2 29 (lC l kl),dM]
 have acZ:=fun(w1:World) (hI:Inv w eE w1)=>(haveI:=j6 hI;(show cR _ _ _ _ _ from by
   have h9:=SP w1 p k1 (hI.CE (II:=22) (I:=3) (mG 7)) hP l kl (hI.atU hl) hL
   rw[show DJ p l=nf b l from SO.1]at h9
   exact h9))
 refine TO.lc Jk (aK acZ) ?_
 clear acZ
 rintro vr O' ⟨N,rfl,rfl,rfl⟩
 refine az (bH (Hm XP F F) (v':=.bool true) (av Value.bool (beq_self_eq_true _))) (aQ (ax (eg 4 gQ cQ) (ax (eg 10 wI dD) ?_)))
 have ac0:=fun(w1:World) (hI:Inv w eE w1)=>(haveI:=j6 hI;(show cR _ _ _ _ _ from by
   have h9:=SP w1 R SN (hI.CE (II:=22) (I:=3) (mG 5)) hR l kl (hI.atU hl) hL
   rw[show DJ R l=nf b l from SO.2.1]at h9
   exact h9))
 refine fD F F F (dV Jk (aK ac0) ?_)
 clear ac0
 rintro vr O' ⟨N,rfl,rfl,rfl⟩
 refine ax aC (ax (bH (Hm XP F F) (v':=.bool true) (av Value.bool (beq_self_eq_true _))) (ad bR (aQ (ax (eg 2 gQ cQ) (ax (eg 10 wI dD) ?_)))))
 have ac1:=fun(w1:World) (hI:Inv w eE w1)=>(haveI:=j6 hI;(show cR _ _ _ _ _ from by
   have h9:=SP w1 Q k3 (hI.CE (II:=22) (I:=3) (mG 3)) hQ l kl (hI.atU hl) hL
   rw[show DJ Q l=nf b l from SO.2.2.1]at h9
   exact h9))
 refine fD F F F (dV Jk (aK ac1) ?_)
 clear ac1
 rintro vr O' ⟨N,rfl,rfl,rfl⟩
 refine ax aC (ax (bH (Hm XP F F) (v':=.bool true) (av Value.bool (beq_self_eq_true _))) (ad bR (aQ (ax aC ?_))))
 by_cases ac3:((wJ Q:Nat):Int)=4
 ·refine ax (cm en ac3) ?_
  refine ax aC (dt (dj (cP ?_)))
  refine dj (ax bR (ad bR (bm ?_)))
  refine aM (.bool true) results3 F ?_
  exact⟨[],bj (aX _),F,F⟩
 refine ax (cD en ac3) (ax aC (ax aC (ax (cm en (by have:=Jl si;omega)) (ax aC (ax (eg 0 gQ cQ) (ax (eg 10 wI dD) ?_))))))
 have Vz:=fun(w1:World) (hI:Inv w eE w1)=>(haveI:=j6 hI;(show cR _ _ _ _ _ from by
   have h9:=SP w1 C k4 (hI.CE (II:=22) (I:=3) (mG 1)) hC l kl (hI.atU hl) hL
   rw[show DJ C l=!nf b l from SO.2.2.2 (by have:=Jl si;omega)]at h9
   exact h9))
 refine fD F F F (dV Jk (aK Vz) ?_)
 clear Vz
 rintro vr O' ⟨N,rfl,rfl,rfl⟩
 refine ax aC (ax (bH (W3 XP F F) (v':=.bool true) (av Value.bool (by cases nf b l<;>rfl))) (ax bR (ax ca (ad bR (bm ?_)))))
 refine aM (.bool true) results3 F ?_
 exact⟨[],bj (aX _),F,F⟩
end Go.Proofs.YtjcophmajgcehaaGreatDoor

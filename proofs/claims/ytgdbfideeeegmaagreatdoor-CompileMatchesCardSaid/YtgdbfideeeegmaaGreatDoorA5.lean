/- Contracts of functions; conditions: those each theorem names. -/
import Derived.Test.YtgdbfideeeegmaaGreatDoorA4
set_option linter.unusedSectionVars false
set_option linter.unusedSimpArgs false
set_option linter.unusedVariables false
set_option linter.unnecessarySimpa false
set_option maxHeartbeats 8000000
set_option maxRecDepth 20000
namespace Go.Proofs.YtgdbfideeeegmaaGreatDoor
open Go.Lx Go.RowKit _root_.Go.Proofs.Tryz
theorem SL (w:World) [dQ prog w] (d:c_) (nb fb:Option Addr) (nc fc:Nat) (vs:List Value) (h:jg w d nb vs fb) (hv:Valid d) (hn:d.next.length<10000):
  cB prog 52 [.agg (fe d nb nc fb fc).toArray] w fun v N=> ∃DH DI p6 p7 qs,v=.tuple #[.agg (fe (eB d) DH DI p6 p7).toArray,vI 0]∧N=[az DH DI 56 1 (dO qs),az p6 p7 4 1 (cO (eB d).aT)]++cw 3 qs∧nums qs=(eB d).next:=by
 refine aA func52 F ntmps52 F ?_
 have he:=eL.2 hv
 have hb:d.next.length<9223372036854775807:=by omega
 have uv: ∀r∈d.next,r.length<9223372036854775807:=hv.wO
 have wM:d.aT.length<9223372036854775807:=by have:=hv.fin;omega
 have Mm:=hv.n0
 have yr:=hv.s0
 have Gf:=hv.s1
 have rQ:d.start.toNat<d.next.length:=by omega
 refine aQ (ax (ef [(vI d.vars),(vI d.start),(.slice nb d.next.length nc),(.slice fb d.aT.length fc)] (fun z1=>?_)))
 refine ax (b_ bY (fun z2=>?_))
 refine aS (bq (ae (eR 1 dm bY) ?_))
 let eH:Lx.Item:=oI z1 25 [(vI d.vars),(vI d.start),(.slice nb d.next.length nc),(.slice fb d.aT.length fc)]
 let lZ:Lx.Item:=oI z2 25 [(vI 0),(vI 0),nS,nS]
 have uB:=fun(w1:World) (hI:Inv w [lZ,eH] w1)=>(haveI:=eP hI;jP w1 d nb fb nc fc vs (hI.Dz h) hb uv wM)
 refine TO.lc xj (aO uB) ?_
 clear uB
 rintro v O' ⟨N,rfl,rfl,rfl⟩
 rw[he]
 refine aj (bo d_ (bi (bf (aE ?_))))
 let qM:Value:=(.agg #[(vI d.vars),(vI d.start),(.slice nb d.next.length nc),(.slice fb d.aT.length fc)])
 refine fF (fun ρ O=> ∃(bA bB bC bD:Nat),O=[oI bC 56 [(.slice (aD bA) 1 1)],oI bD 23 [(.slice (aD bB) d.next.length d.next.length)],bJ bA 1 3 1 [(vI d.start)],bJ bB d.next.length 4 1 (List.replicate d.next.length (.bool false)),lZ,eH]∧dh [(0,qM),(1,(.pointer (aD z1))),(2,(.pointer (aD z2))),(3,vI 0),(4,vI ((0:Nat):Int)),(5,(.pointer (aD bC))),(6,(.pointer (aD bD)))] ρ) ?_ ?_
 ·refine pq [eH] 11 mixed F (cH [1]) (fun _ _ _ _ h=>h) ?_
  refine cI 0 F (by kernel_rfl) (bu dm bM) ?_
  refine cI 1 F (by kernel_rfl) (bF 0 eO) ?_
  refine cI 3 F (by kernel_rfl) (bu dm fx) ?_
  refine cI 4 F (by kernel_rfl) (bF 0 eY) ?_
  refine cI 5 F (by kernel_rfl) (cL eY) ?_
  repeat' first
   |refine⟨⟨some 18,_,_,_,_,_⟩,F,F,dL (v:=(vI d.start)) da bM F F F (fun bA=>⟨?_,?_⟩)⟩
   |refine⟨⟨some 22,_,_,_,_,_⟩,F,F,fg d.next.length eS gq F F (by omega) (by omega) (fun bB=>⟨?_,?_⟩)⟩
   |refine⟨⟨some 5,_,_,_,_,_⟩,F,F,b_ eo (fun bC=>⟨?_,?_⟩)⟩
   |refine⟨⟨some 6,_,_,_,_,_⟩,F,F,b_ e7 (fun bD=>⟨?_,?_⟩)⟩
   |refine⟨⟨none,.store 56 _ _,_,_,_,_⟩,F,F,c8 [(.slice (aD bA) 1 1)] 0 eo ⟨?_,?_⟩ F F F F⟩
   |refine⟨⟨none,.store 56 _ _,_,_,_,_⟩,F,F,c8 [(.slice (aD bA) 1 1)] 1 eo ⟨?_,?_⟩ F F F F⟩
   |refine⟨⟨none,.store 56 _ _,_,_,_,_⟩,F,F,c8 [(.slice (aD bA) 1 1)] 2 eo ⟨?_,?_⟩ F F F F⟩
   |refine⟨⟨none,.store 56 _ _,_,_,_,_⟩,F,F,c8 [(.slice (aD bA) 1 1)] 3 eo ⟨?_,?_⟩ F F F F⟩
   |refine⟨⟨none,.store 23 _ _,_,_,_,_⟩,F,F,c8 [(.slice (aD bB) d.next.length d.next.length)] 0 e7 ⟨?_,?_⟩ F F F F⟩
   |refine⟨⟨none,.store 23 _ _,_,_,_,_⟩,F,F,c8 [(.slice (aD bB) d.next.length d.next.length)] 1 e7 ⟨?_,?_⟩ F F F F⟩
   |refine⟨⟨none,.store 23 _ _,_,_,_,_⟩,F,F,c8 [(.slice (aD bB) d.next.length d.next.length)] 2 e7 ⟨?_,?_⟩ F F F F⟩
   |refine⟨⟨none,.store 23 _ _,_,_,_,_⟩,F,F,c8 [(.slice (aD bB) d.next.length d.next.length)] 3 e7 ⟨?_,?_⟩ F F F F⟩
   |exact cH [2]
   |exact cH [3]
   |exact cH [4]
   |exact cH [5]
   |refine cS [2,6,7,8] (by decide+kernel) F ?_
   |refine cS [2,6,7] (by decide+kernel) F ?_
   |refine cS [2,6,8] (by decide+kernel) F ?_
   |refine cS [2,7,8] (by decide+kernel) F ?_
   |refine cS [6,7,8] (by decide+kernel) F ?_
   |refine cS [2,6] (by decide+kernel) F ?_
   |refine cS [2,7] (by decide+kernel) F ?_
   |refine cS [2,8] (by decide+kernel) F ?_
   |refine cS [6,7] (by decide+kernel) F ?_
   |refine cS [6,8] (by decide+kernel) F ?_
   |refine cS [6,9] (by decide+kernel) F ?_
   |refine cS [7,8] (by decide+kernel) F ?_
   |refine cS [2] (by decide+kernel) F ?_
   |refine cS [6] (by decide+kernel) F ?_
   |refine cS [7] (by decide+kernel) F ?_
   |refine cS [8] (by decide+kernel) F ?_
   |refine cS [9] (by decide+kernel) F ?_
   |refine cS [10] (by decide+kernel) F ?_
   |exact trivial
   |refine im (by kernel_rfl) ⟨bA,bB,bC,bD,F,(.of F)⟩ ?_
   |exact iq []
   |refine⟨?_,?_⟩
 rintro ρ O ⟨bA,bB,bC,bD,rfl,hH⟩
 obtain⟨gv,rfl⟩:=hH.elim
 clear hH
 refine aG (bF 1 eS) (ae (bu dm bM) (ae (bF 5 eO) (ae (HW (i:=d.start) eS gq F F (eA 3) yr rQ (by rw[jE];exact rQ)) (ax (n7 (v:=.bool true) (vs:=[(.bool true)]) (cs:=List.replicate d.next.length (.bool false)) d.start.toNat 3 gq F F F F F (by simp) F (by first|(simp;omega)|(simp_all;omega)) ?_)))))
 let gd:Lx.Item:=oI bD 23 [(.slice (aD bB) d.next.length d.next.length)]
 refine dW (O':=[oI bC 56 [(.slice (aD bA) 1 1)],gd,bJ bA 1 3 1 [(vI d.start)],bJ bB d.next.length 4 1 (cO ((List.replicate d.next.length false).set d.start.toNat true)),lZ,eH]) (by rw[show fC (List.replicate d.next.length (.bool false)) d.start.toNat [(.bool true)]=cO ((List.replicate d.next.length false).set d.start.toNat true)from by simp[fC]];exact cd (aP _)) ?_
 refine bi (aG (fI) (aj (aG (bu dm bM) (ae (bF 5 eO) (ae (bu dm bM) (ax (c8 [(vI d.vars)] 4 bM ?_)))))))
 refine dJ ?_
 have hJ0: [oI z1 25 [(vI d.vars),(vI d.start),(.slice nb d.next.length nc),(.slice fb d.aT.length fc)],oI bC 56 [(.slice (aD bA) 1 1)],bJ bA 1 3 1 [(vI d.start)],oI bD 23 [(.slice (aD bB) d.next.length d.next.length)],bJ bB d.next.length 4 1 (cO ((List.replicate d.next.length false).set d.start.toNat true))]=[oI z1 25 [(vI d.vars),(vI d.start),(.slice nb d.next.length nc),(.slice fb d.aT.length fc)],oI bC 56 [(.slice (aD bA) 1 1)],bJ bA 1 3 1 (cm [d.start.toNat]),oI bD 23 [(.slice (aD bB) d.next.length d.next.length)],bJ bB d.next.length 4 1 (cO ((List.replicate d.next.length false).set d.start.toNat true))]:=by
  rw[show cm [d.start.toNat]=[vI d.start] by simp[cW yr]]
 have ach: ∀t,t<d.next.length→((List.replicate d.next.length false).set d.start.toNat true)[t]? =some (decide (t∈[d.start.toNat])):=fun t ht=>by
  by_cases e:t=d.start.toNat
  ·subst e;rw[List.getElem?_set_self (by simpa using ht)];simp
  ·rw[List.getElem?_set_ne (fun h=>e h.symm)];simp[ht,e]
 refine T.ds [eH] [(0,0),(1,0),(2,0),(3,0),(4,0),(5,0),(6,0),(7,0),(9,0),(8,1),(10,1),(11,0),(12,0),(13,0),(14,0),(15,1)] (cH [5]) ?_
 refine ap F (bu dm bM) (ap F (bF 0 eO) (ap F (o8 (v:=d.vars.toNat) F (by show Value.int _ d.vars=_;rw[cW hv.v0]) (by have:=hv.v6;omega)) (ap F (bu dm fx) (ap F (bF 0 eY) (ap F (cL eY) (ap F (bu dm bM) (ap F (cg (bF 0 eO) (v':=vI ((d.start.toNat:Nat):Int)) (by rw[cW yr])) (ap F aw ?_))))))))
 let kp:List Lx.Item:=[oI bC 56 [(.slice (aD bA) 1 1)],gd,bJ bA 1 3 1 [(vI d.start)],bJ bB d.next.length 4 1 (cO ((List.replicate d.next.length false).set d.start.toNat true)),oI z2 25 [(vI d.vars),(vI 0),nS,nS],eH]
 have pI:=fun(w1:World) (hI:Inv w kp w1)=>(haveI:=eP hI;PG w1 d.start.toNat (by omega))
 refine cG F F (eh OG (aO pI) ?_)
 clear pI
 rintro v O' ⟨N,rfl,rfl,rfl⟩
 refine⟨cH [5],?_⟩
 let li:Lx.Item:=oI z2 25 [(vI d.vars),(vI 0),nS,nS]
 have y6:=cx.under (B:=[li]) (O:=kp) (PF w (F4 d) (2^d.vars.toNat) d.next.length (Lib.decDigits d.start.toNat) (.func (.func 84) #[] #[.pointer (aD z1),.pointer (aD bC),.pointer (aD bD)]) (XJ d nb fb nc fc z1 bB bC bD) (fun ks=>ks.length≤d.next.length) hv.width hv.n4 (fun ks s x O hs hx _ hJ=>acf w d nb fb nc fc vs h hv hn z1 bB bC bD ks s x O hs hx hJ) (fun _ h=>h) [eH,oI bC 56 [(.slice (aD bA) 1 1)],bJ bA 1 3 1 [(vI d.start)],gd,bJ bB d.next.length 4 1 (cO ((List.replicate d.next.length false).set d.start.toNat true))] (by simp;omega) ⟨[d.start.toNat],(List.replicate d.next.length false).set d.start.toNat true,some ⟨bA,0,none⟩,1,F,hJ0,by simp,by simp;omega,by simp,ach⟩) (cH [5,0,1,0,0,0])
 refine cG F F (eh abz y6 ?_)
 clear y6
 rintro v O' ⟨A1,rfl,rb,rc,qs,N,O1,rfl,rfl,⟨os,sn,ob,oc,pu,rfl,my,KW,Qj,akf⟩,hgl,aci,hE,k7⟩
 let fR:Lx.Item:=bJ bB d.next.length 4 1 (cO sn)
 let gn:Lx.Item:=oI bC 56 [(.slice ob os.length oc)]
 let iB:Lx.Item:=az rb rc 56 1 (dO qs)
 let jz:Lx.Item:=az ob oc 3 1 (cm os)
 refine⟨iq ([iB]++cw 3 qs++[gn,jz,gd,fR,li]),?_⟩
 refine fj (O':=[iB,eH,gn,jz,gd,fR,li]++cw 3 qs) (iq []) ?_
 refine ap F aw (ap F (bI _) (ap F (bI _) (ap F (bu dm fx) ?_)))
 let np:Value:=(.slice rb N rc)
 refine cG F F (c8 [np] 6 fx ⟨fO [1] [iB,eH,gn,jz,gd,fR,oI z2 25 [(vI d.vars),(vI 0),np,nS]] (cw 3 qs) F F,?_⟩ F F F F)
 refine cy ?_
 refine br (aG (bF 2 da) (ae (cL da) (bH (aK ?_))))
 have Wq:=fA my KW
 refine T.fJ 4 1 ?_
 refine dU (fun(k:Nat) ρ O=> ∃(x8:Option Addr) (x9:Nat),O=([az x8 x9 4 1 (cO ((os.take k).map fun o=>d.aT.getD o false)),iB,eH,gn,jz,gd,fR,oI z2 25 [(vI d.vars),(vI 0),np,(.slice x8 k x9)]]++(cw 3 qs))∧k≤os.length∧dh [(0,qM),(1,(.pointer (aD z1))),(2,(.pointer (aD z2))),(3,vI 0),(4,vI ((0:Nat):Int)),(5,(.pointer (aD bC))),(6,(.pointer (aD bD))),(7,(.func (.func 84) #[] #[(.pointer (aD z1)),(.pointer (aD bC)),(.pointer (aD bD))])),(46,(.slice ob os.length oc)),(47,vI (os.length:Int)),(48,vI (k:Int))] ρ) (fun k=>os.length-k) 0 ?_ ?_
 ·exact⟨none,0,F,bj _,(.of F)⟩
 rintro k ρ O ⟨x8,x9,rfl,hk,hH⟩
 obtain⟨gv,rfl⟩:=hH.elim
 clear hH
 refine aG cV (dJ (aL F (fun hc=>?_) (fun hc=>?_)))
 ·have UF:k<os.length:=by omega
  have FR:os[k]<d.next.length:=KW _ (av UF)
  have afy:os[k]<d.aT.length:=by have:=hv.fin;omega
  refine aE (br (aK (aG (dB k da bM F F (eA 4)) (ae (iN eO F F (eA 4) iT) (aj ?_)))))
  let sJ:Lx.Item:=oI z2 25 [(vI d.vars),(vI 0),(.slice rb N rc),(.slice x8 k x9)]
  refine T.ds [eH,sJ] [(0,0),(1,0),(2,0),(3,0),(4,0),(5,0),(6,0),(7,1),(8,2),(9,2),(10,2)] (fO [2,6] [az x8 x9 4 1 (cO ((os.take k).map fun o=>d.aT.getD o false)),iB,eH,gn,jz,gd,fR,sJ] (cw 3 qs) F F) ?_
  refine ap F (bu dm e7) (ap F (bF 1 eS) (ap F (bu dm e7) (ap F (bF 0 eS) (ap F aw (ap F (dB (os[k]) eS gq F F (a6 h.aT)) (ap F (dD uT F F h.aT j9) ?_))))))
  let nF:List Value:=[.bool d.aT[os[k]]]
  refine cG F F (dL (v:=.bool d.aT[os[k]]) eS gq F F F (fun z3=>⟨fO [3,7] [bJ z3 1 4 1 nF,az x8 x9 4 1 (cO ((os.take k).map fun o=>d.aT.getD o false)),iB,eH,gn,jz,gd,fR,sJ] (cw 3 qs) F F,?_⟩))
  refine cA F F (dE 1 eS eS gq F F F F (by simp;omega) (by decide) (Src.row (j:=0) F (by simp)) (by simp[fS]) (by omega) (by decide) (by decide) (fun z4 LB=>?_))
  refine cA F F (eV F F (bu dm e7) ?_)
  refine cA F F (c8 [(.slice z4 (k+1) LB)] 8 e7 ?_)
  let mF:Lx.Item:=oI z2 25 [(vI d.vars),(vI 0),np,(.slice z4 (k+1) LB)]
  refine fj (O':=([az z4 LB 4 1 ((cO ((os.take k).map fun o=>d.aT.getD o false))++nF),iB,eH,gn,jz,gd,fR,mF]++(cw 3 qs))) (lI [1,1,1,1,1,1,1,1] [bJ z3 1 4 1 nF,az z4 LB 4 1 ((cO ((os.take k).map fun o=>d.aT.getD o false))++nF),iB,eH,gn,jz,gd,fR,mF] (cw 3 qs) F F) ?_
  refine cy ?_
  refine a_ (ae (lF F F (by omega)) (bH ?_))
  have Az:(List.take (k+1) os).map (fun o=>d.aT.getD o false)=(List.take k os).map (fun o=>d.aT.getD o false)++[d.aT[os[k]]]:=by
   rw[aC UF,bm];simp[afy]
  exact⟨k+1,by omega,z4,LB,by rw[Az,show cO ((List.take k os).map (fun o=>d.aT.getD o false)++[d.aT[os[k]]])=cO ((List.take k os).map fun o=>d.aT.getD o false)++[.bool d.aT[os[k]]]from bm],by omega,(.of F)⟩
 have ahP: ¬k<os.length:=by omega
 refine cD ?_
 refine aG (eR 7 dm bY) (ax (c8 [(vI d.vars),(vI 0),np,(.slice x8 k x9)] 7 bY ?_))
 refine aR ?_
 refine kO (vI 0) (i:=7) results52 dm F bY F F F F ?_
 have Yr:k=os.length:=by omega
 obtain⟨ho,hN9⟩:=K_ k7 pu aci (fA my KW)
 have Qt:=PB pu hE ho hN9
 have Lt:(List.take k os).map (fun o=>d.aT.getD o false)=(eB d).aT:=by rw[bt (by omega),ho];rfl
 have Nf:(eB d).next.length=N:=by rw[←Qt,hE.len]
 have hl2:(eB d).aT.length=k:=by rw[←Lt,ai,db];omega
 refine⟨[iB,az x8 x9 4 1 (cO ((os.take k).map fun o=>d.aT.getD o false))]++cw 3 qs,(lI [1,0] [az x8 x9 4 1 (cO ((os.take k).map fun o=>d.aT.getD o false)),iB,eH,gn,jz,gd,fR,oI z2 25 [(vI d.vars),(vI 0),np,(.slice x8 k x9)]] (cw 3 qs) F F),rb,rc,x8,x9,qs,?_,by rw[Lt],Qt⟩
 show Value.tuple #[Value.agg (List.toArray [vI d.vars,vI 0,.slice rb N rc,.slice x8 k x9]),_]=Value.tuple #[Value.agg (List.toArray [vI d.vars,vI 0,.slice rb (eB d).next.length rc,.slice x8 (eB d).aT.length x9]),_]
 rw[Nf,hl2]
theorem XG (w:World) [dQ prog w] (d:c_) (nb fb:Option Addr) (nc fc:Nat) (vs:List Value) (h:jg w d nb vs fb) (hb:d.next.length<9223372036854775807) (uv: ∀r∈d.next,r.length<9223372036854775807) (wM:d.aT.length<9223372036854775807) (he:di d≠0):
  cB prog 23 [.agg (fe d nb nc fb fc).toArray] w fun v N=>v=.tuple #[.agg #[vI 0,vI 0,nS,nS],vI (di d:Int)]∧N=[]:=by
 refine aA func23 F ntmps23 F ?_
 refine aQ (ax (ef [(vI d.vars),(vI d.start),(.slice nb d.next.length nc),(.slice fb d.aT.length fc)] (fun b1=>?_)))
 refine ax (b_ bY (fun b2=>?_))
 refine aj (aG (eR 1 dm bY) ?_)
 have u_:=fun(w1:World) (hI:Inv w [oI b2 25 [(vI 0),(vI 0),nS,nS],oI b1 25 [(vI d.vars),(vI d.start),(.slice nb d.next.length nc),(.slice fb d.aT.length fc)]] w1)=>(haveI:=eP hI;Hl w1 d nb fb nc fc vs (hI.Dz h) hb uv wM he)
 refine TO.lc Un (aO u_) ?_
 clear u_
 rintro v O' ⟨N,rfl,rfl,rfl⟩
 refine ay (bI _) (ae (bI _) (ax (b_ eo (fun b3=>?_))))
 refine ax (c8 [nS] 0 eo ?_)
 refine aS (bq (aN (aX (bn d_ (by omega)) ?_)))
 refine bW ?_
 refine aG (dc _ kg bY F) (aN (ax (c8 [(vI 0),(vI 0),nS,nS] 1 bY ?_)))
 refine aR ?_
 refine kO (vI (di d:Int)) (i:=1) results23 dm F bY F F F F ?_
 exact⟨[],cd (bV _),F,F⟩
theorem ab7 (w:World) [dQ prog w] (d:c_) (nb fb:Option Addr) (nc fc:Nat) (vs:List Value) (h:jg w d nb vs fb) (hv:Valid d) (hn:d.next.length<10000) (hqv:Valid (quo d (iL d d.next.length))) (hqn:(quo d (iL d d.next.length)).next.length<10000):
  cB prog 23 [.agg (fe d nb nc fb fc).toArray] w fun v N=> ∃DH DI p6 p7 qs,v=.tuple #[.agg (fe (eB (quo d (iL d d.next.length))) DH DI p6 p7).toArray,vI 0]∧N=[az DH DI 56 1 (dO qs),az p6 p7 4 1 (cO (eB (quo d (iL d d.next.length))).aT)]++cw 3 qs∧nums qs=(eB (quo d (iL d d.next.length))).next:=by
 refine aA func23 F ntmps23 F ?_
 obtain⟨cs,yx⟩: ∃cs,iL d d.next.length=cs:=⟨_,F⟩
 rw[yx]at hqv hqn⊢
 have pm:cs.length=d.next.length:=yx▸fQ d _
 have FZ: ∀x∈cs,x<10000:=yx▸Pm hn _
 have yr:=hv.s0
 have Gf:=hv.s1
 have Mm:=hv.n0
 have hn4:=hv.n4
 have rQ:d.start.toNat<cs.length:=by omega
 have hb:d.next.length<9223372036854775807:=by omega
 let mF:Value:=(.slice fb d.aT.length fc)
 let nF:Value:=(.slice nb d.next.length nc)
 refine aQ (ax (ef [(vI d.vars),(vI d.start),nF,mF] (fun z1=>?_)))
 refine ax (b_ bY (fun z2=>?_))
 refine aj (aG (eR 1 dm bY) ?_)
 let eH:Lx.Item:=oI z1 25 [(vI d.vars),(vI d.start),(.slice nb d.next.length nc),(.slice fb d.aT.length fc)]
 let gn:Lx.Item:=oI z2 25 [(vI 0),(vI 0),nS,nS]
 have u_:=fun(w1:World) (hI:Inv w [gn,eH] w1)=>(haveI:=eP hI;KY w1 d nb fb nc fc vs (hI.Dz h) hv hn)
 refine TO.lc Un (aO u_) ?_
 clear u_
 rintro v O' ⟨N,rfl,cb,cc,rfl,rfl⟩
 rw[yx]
 refine ay (bI _) (ae (bI _) (ax (b_ eo (fun z3=>?_))))
 refine ax (c8 [(.slice cb d.next.length cc)] 0 eo ?_)
 refine aS (bq (aN (aX d_ (bf (aE (br ?_))))))
 let fR:Lx.Item:=oI z3 56 [(.slice cb d.next.length cc)]
 let iB:Lx.Item:=az cb cc 3 1 (cm cs)
 refine T.ds [fR,iB,eH] [(0,0),(1,0),(2,0),(3,0),(4,0),(5,0),(6,0),(7,0),(8,1),(9,2)] (cH [0,0,1]) ?_
 refine ap F (bu dm bM) (ap F (bF 2 eO) (ap F (bF 0 da) (ap F (bu dm bM) (ap F (bF 2 eO) (ap F (HW (i:=d.start) da bM F F (eA 1) yr (pm▸rQ) (by rw[ai];exact rQ)) (ap F (iN eO F F (eA 1) (show(cm cs)[d.start.toNat]? =some (vN (cs.getD d.start.toNat 0)) by rw[iT rQ];simp[rQ])) (ap F (dc [(vI d.vars),vN (cs.getD d.start.toNat 0),nS,nS] kg bY (by kernel_rfl)) ?_)))))))
 refine cG F F (b_ bY (fun z4=>⟨cH [1,1,2],?_⟩))
 refine cA F F (c8 [(vI d.vars),vN (cs.getD d.start.toNat 0),nS,nS] 0 bY ?_)
 refine cy ?_
 refine br (aG (eR 4 dm bY) ?_)
 let lZ:Lx.Item:=oI z4 25 [(vI d.vars),vN (cs.getD d.start.toNat 0),nS,nS]
 have y_:=fun(w1:World) (hI:Inv w [lZ,fR,iB,gn,eH] w1)=>(haveI:=eP hI;Ux w1 d nb fb nc fc)
 refine TO.lc Uo (aO y_) ?_
 clear y_
 rintro v O' ⟨N,rfl,bR,rfl,rfl⟩
 refine bi (T.fJ 4 1 ?_)
 refine T.fJ 56 1 ?_
 refine dq (O':=[oI bR 25 [(vI d.vars),(vI d.start),nF,mF],lZ,az none 0 56 1 (dO []),az none 0 4 1 (cO []),fR,iB,gn,eH]) (cH [2,2,0,0,0,0,0,0]) ?_
 refine aK ?_
 refine T.rangeFunc (first:=[]) (gU:=[(.pointer (aD bR))]) F Ur (fun yl yq yhq=>?_)
 refine cx.mono (cx.sub (O':=oI bR 25 [(vI d.vars),(vI d.start),nF,mF]::(eu yl (lp yq none)::[lZ,az none 0 56 1 (dO []),az none 0 4 1 (cO []),fR,iB,gn,eH])) (cH [1,0,0,0,0,0,0,0,0]) (Uy w d nb fb nc fc vs h hb bR (.func (.yield yl) #[] #[]) (fun k O=> ∃(ob x8:Option Addr) (oc x9:Nat) (qs:List Rec) (fs:List Bool),O=eu yl (lp yq none)::([oI z4 25 [(vI d.vars),(vN (cs.getD d.start.toNat 0)),(.slice ob qs.length oc),(.slice x8 fs.length x9)],az ob oc 56 1 (dO qs),az x8 x9 4 1 (cO fs),fR,iB,gn,eH]++(cw 3 qs))∧k≤d.next.length∧nums qs=(jB d cs k).1∧fs=(jB d cs k).2) (fun _=>False) ?_ _ ?_)) ?_
 ·intro k gQ vb vc O g1 s1 hJ
  obtain⟨ob,x8,oc,x9,qs,fs,rfl,hk,DX,oF⟩:=hJ
  refine fh.yield yhq F F ?_
  have hkc:k<cs.length:=by omega
  have Kb:qs.length=(jB d cs k).1.length:=by rw[←DX];simp
  have oG:fs.length=(jB d cs k).1.length:=by rw[oF];exact(lT d cs k).1.symm
  have hqk:=(lT d cs k).2
  have Xv:k<d.aT.length:=by have:=hv.fin;omega
  have L5:d.next[k].length≤64:=by
   have:=hv.len _ (av gQ);have:=hv.width;omega
  have vh: ∀j (hj:j<d.next[k].length),0≤d.next[k][j]∧d.next[k][j].toNat<cs.length:=fun j hj=>by have:=hv.ok _ (av gQ) _ (av hj);omega
  refine aQ (aj (a_ (aj (aK (br (br ?_))))))
  let gd:Lx.Item:=oI z4 25 [(vI d.vars),(vN (cs.getD d.start.toNat 0)),(.slice ob qs.length oc),(.slice x8 fs.length x9)]
  let jz:Lx.Item:=az x8 x9 4 1 (cO fs)
  let np:Lx.Item:=az ob oc 56 1 (dO qs)
  refine T.ds [gd,fR,iB] [(0,0),(1,0),(2,0),(3,0),(4,0),(5,0),(6,0),(7,0)] (fO [0,2,2] [gd,np,jz,fR,iB,gn,eH] (cw 3 qs) F F) ?_
  refine ap F (bF 1 da) (ap F aw (ap F (dB k da bM F F (eA 2)) (ap F (iN eO F F (eA 2) iT) (ap F (bu dm fx) (ap F (bF 0 eY) (ap F (cL eY) (ap F cV ?_)))))))
  refine cy ?_
  refine aL F (fun hc=>?_) (fun hc=>?_)
  ·have zl:cs[k]<qs.length:=by omega
   have ab8:jB d cs (k+1)=jB d cs k:=by rw[jB,aB (by simp[hkc];omega)]
   refine cD ?_
   refine .inl ⟨F,ob,x8,oc,x9,qs,fs,F,by omega,?_,?_⟩
   ·rw[ab8];exact DX
   ·rw[ab8];exact oF
  have T2: ¬cs[k]<qs.length:=by omega
  have ab9:jB d cs (k+1)=((jB d cs k).1++[(gE cs d.next[k]).map fun c:Nat=>(c:Int)],(jB d cs k).2++[d.aT[k]]):=by rw[jB,aq (by simp[hkc];omega)];simp[gQ,Xv]
  refine aE (aQ (aS (bq (ay (cL da) (bH (aK (T.fJ 3 1 ?_)))))))
  let Ci:Value:=(.slice vb d.next[k].length vc)
  refine dU (fun(j:Nat) ρ O=> ∃(kb:Option Addr) (kc:Nat),O=([az kb kc 3 1 (cm ((gE cs d.next[k]).take j)),gd,np,jz,fR,iB,gn,eH]++(cw 3 qs))∧j≤d.next[k].length∧dh [(0,(.agg #[(vI d.vars),(vI d.start),nF,mF])),(1,(.pointer (aD z1))),(2,(.pointer (aD z2))),(3,vI 0),(4,(.pointer (aD z3))),(5,vI 0),(6,(.pointer (aD z4))),(7,vI (k:Int)),(8,Ci),(9,(.slice kb j kc)),(41,Ci),(42,vI (d.next[k].length:Int)),(43,vI (j:Int))] ρ) (fun j=>d.next[k].length-j) 0 ?_ ?_
  ·exact⟨none,0,F,bj _,(.of F)⟩
  rintro j ρ O ⟨kb,kc,rfl,hj,hH⟩
  obtain⟨gv,rfl⟩:=hH.elim
  clear hH
  refine aG cV (dJ (aL F (fun hc=>?_) (fun hc=>?_)))
  ·have nv:j<d.next[k].length:=by omega
   have htj:=(vh j nv).2
   refine aE (br (aK (aG (dB j da bM F F (a6 s1)) (ae (dD eO F F s1 gL) (aj (a_ (ay (bF 4 da) (ay (HW (i:=d.next[k][j]) da bM F F (eA 5) (vh j nv).1 (pm▸(vh j nv).2) (by rw[ai];exact(vh j nv).2)) (ae (iN eO F F (eA 5) (iT (vh j nv).2)) (ax (dL (v:=vN (cs[d.next[k][j].toNat])) da bM F F F (fun z5=>?_))))))))))))
   refine ax (dE 1 da da bM F F F F (by rw[ai,db,jr];omega) (by decide) (Src.row (j:=0) F (by simp)) (by simp[fS]) (by omega) (by decide) (by decide) (fun z6 J8=>?_))
   refine aS ?_
   let AC:Lx.Item:=az z6 J8 3 1 ((cm ((gE cs d.next[k]).take j))++[vN (cs[d.next[k][j].toNat])])
   refine dW (O':=([AC,gd,np,jz,fR,iB,gn,eH]++(cw 3 qs))) (lI [1,1,1,1,1,1,1,1] [bJ z5 1 3 1 [vN (cs[d.next[k][j].toNat])],AC,gd,np,jz,fR,iB,gn,eH] (cw 3 qs) F F) ?_
   refine bi (a_ (ae (lF F F (by omega)) (bH ?_)))
   have Az:(gE cs d.next[k]).take (j+1)=(gE cs d.next[k]).take j++[cs[d.next[k][j].toNat]]:=by rw[aC (by rw[jr];exact nv),Fv nv (vh j nv).2]
   exact⟨j+1,by omega,z6,J8,by rw[Az,show cm ((gE cs d.next[k]).take j++[cs[d.next[k][j].toNat]])=cm ((gE cs d.next[k]).take j)++[vN (cs[d.next[k][j].toNat])]from bm],by omega,(.of F)⟩
  have Tm: ¬j<d.next[k].length:=by omega
  refine cD ?_
  have hjf:j=d.next[k].length:=by omega
  have hR:az kb kc 3 1 (cm ((gE cs d.next[k]).take j))=Rec.qW 3 ⟨kb,kc,(gE cs d.next[k]).map fun c:Nat=>(c:Int)⟩:=by
   rw[bt (by rw[jr];omega)];simp[Rec.qW,Function.comp_def]
  refine Mw (fun ρ O=> ∃(xN:Option Addr) (xO:Nat) (p8:Option Addr) (qV:Nat),O=([oI z4 25 [(vI d.vars),(vN (cs.getD d.start.toNat 0)),(.slice xN (qs.length+1) xO),(.slice p8 (fs.length+1) qV)],az xN xO 56 1 ((dO qs)++[(.slice kb j kc)]),az p8 qV 4 1 ((cO fs)++[(.bool d.aT[k])]),fR,iB,gn,eH]++(cw 3 (qs++[⟨kb,kc,(gE cs d.next[k]).map fun c:Nat=>(c:Int)⟩])))∧dh [(0,(.agg #[(vI d.vars),(vI d.start),nF,mF])),(1,(.pointer (aD z1))),(2,(.pointer (aD z2))),(3,vI 0),(4,(.pointer (aD z3))),(5,vI 0),(6,(.pointer (aD z4))),(7,vI (k:Int)),(8,Ci),(9,(.slice kb j kc)),(41,Ci),(42,vI (d.next[k].length:Int)),(43,vI (j:Int))] ρ) ?_ ?_
  ·let kp:Lx.Item:=az kb kc 3 1 (cm ((gE cs d.next[k]).take j))
   refine JU [gd,eH] [15,17] 18 mixed F (fO [1,6] [kp,gd,np,jz,fR,iB,gn,eH] (cw 3 qs) F F) (fun _ _ _ _ h=>h) ?_
   refine ii 0 F (by kernel_rfl) (bu dm fx) ?_
   refine ii 1 F (by kernel_rfl) (bF 0 eY) ?_
   refine ii 2 F (by kernel_rfl) aw ?_
   refine ii 5 F (by kernel_rfl) (bu dm e7) ?_
   refine ii 6 F (by kernel_rfl) (bF 0 eS) ?_
   refine ii 7 F (by kernel_rfl) (bu dm e7) ?_
   refine ii 8 F (by kernel_rfl) (bF 1 eS) ?_
   refine ii 9 F (by kernel_rfl) aw ?_
   refine ii 10 F (by kernel_rfl) (dB k eS gq F F (a6 h.aT) Xv (by rw[ai];exact Xv)) ?_
   refine ii 11 F (by kernel_rfl) (dD uT F F h.aT (j9 Xv)) ?_
   refine gz [3,12] (by kernel_rfl) F ⟨⟨_,F,F,dL (v:=(.slice kb j kc)) eY eo F F F (fun zA=>⟨.inr (fO [2,7] [bJ zA 1 56 1 [(.slice kb j kc)],kp,gd,np,jz,fR,iB,gn,eH] (cw 3 qs) F F),?_⟩)⟩,⟨_,F,F,dL (v:=(.bool d.aT[k])) eS gq F F F (fun zB=>⟨.inr (fO [2,7] [bJ zB 1 4 1 [(.bool d.aT[k])],kp,gd,np,jz,fR,iB,gn,eH] (cw 3 qs) F F),?_⟩)⟩,trivial⟩ (by kernel_rfl)
   ·let li:Lx.Item:=bJ zA 1 56 1 [(.slice kb j kc)]
    refine gz [4,12] (by kernel_rfl) F ⟨⟨_,F,F,dE 3 eY eY eo F F F F (by rw[ai];omega) (by decide) (Src.row (j:=0) F (by simp)) (by simp[fS]) (by omega) (by decide) (by decide) (fun xN xO=>⟨.inr (fO [2,7] [li,kp,gd,az xN xO 56 1 ((dO qs)++[(.slice kb j kc)]),jz,fR,iB,gn,eH] (cw 3 qs) F F),?_⟩)⟩,⟨_,F,F,dL (v:=(.bool d.aT[k])) eS gq F F F (fun zB=>⟨.inr (fO [3,8] [bJ zB 1 4 1 [(.bool d.aT[k])],li,kp,gd,np,jz,fR,iB,gn,eH] (cw 3 qs) F F),?_⟩)⟩,trivial⟩ (by kernel_rfl)
    ·refine lH 14 F (by kernel_rfl) (bu dm fx) ?_
     let MQ:Lx.Item:=az xN xO 56 1 ((dO qs)++[(.slice kb j kc)])
     refine gz [12] (by kernel_rfl) F ⟨⟨_,F,F,dL (v:=(.bool d.aT[k])) eS gq F F F (fun zB=>⟨.inr (fO [3,8] [bJ zB 1 4 1 [(.bool d.aT[k])],li,kp,gd,MQ,jz,fR,iB,gn,eH] (cw 3 qs) F F),?_⟩)⟩,trivial⟩ (by kernel_rfl)
     refine gz [13] (by kernel_rfl) F ⟨⟨_,F,F,dE 5 eS eS gq F F F F (by rw[ai];omega) (by decide) (Src.row (j:=0) F (by simp)) (by simp[fS]) (by omega) (by decide) (by decide) (fun p8 qV=>⟨.inr (fO [3,8] [bJ zB 1 4 1 [(.bool d.aT[k])],li,kp,gd,MQ,az p8 qV 4 1 ((cO fs)++[(.bool d.aT[k])]),fR,iB,gn,eH] (cw 3 qs) F F),?_⟩)⟩,trivial⟩ (by kernel_rfl)
     refine gz [15] (by kernel_rfl) F ⟨⟨_,F,F,c8 [(.slice xN (qs.length+1) xO)] 3 fx ⟨.inl (by decide),?_⟩ F F F F⟩,trivial⟩ (by kernel_rfl)
     refine lH 16 F (by kernel_rfl) (bu dm e7) ?_
     refine gz [17] (by kernel_rfl) F ⟨⟨_,F,F,c8 [(.slice p8 (fs.length+1) qV)] 3 e7 ⟨.inl (by decide),?_⟩ F F F F⟩,trivial⟩ (by kernel_rfl)
     exact im (by kernel_rfl) ⟨xN,xO,p8,qV,F,(.of F)⟩ (by show Sub _ ([bJ zB 1 4 1 [(.bool d.aT[k])],bJ zA 1 56 1 [(.slice kb j kc)],az kb kc 3 1 (cm ((gE cs d.next[k]).take j)),oI z4 25 [(vI d.vars),(vN (cs.getD d.start.toNat 0)),(.slice xN (qs.length+1) xO),(.slice p8 (fs.length+1) qV)],az xN xO 56 1 ((dO qs)++[(.slice kb j kc)]),az p8 qV 4 1 ((cO fs)++[(.bool d.aT[k])]),oI z3 56 [(.slice cb d.next.length cc)],az cb cc 3 1 (cm cs),oI z2 25 [(vI 0),(vI 0),nS,nS],oI z1 25 [(vI d.vars),(vI d.start),(.slice nb d.next.length nc),(.slice fb d.aT.length fc)]]++cw 3 qs);rw[hR];exact iq [bJ zB 1 4 1 [(.bool d.aT[k])],bJ zA 1 56 1 [(.slice kb j kc)]])
    refine gz [4] (by kernel_rfl) F ⟨⟨_,F,F,dE 4 eY eY eo F F F F (by rw[ai];omega) (by decide) (Src.row (j:=1) F (by simp)) (by simp[fS]) (by omega) (by decide) (by decide) (fun xN xO=>⟨.inr (fO [3,8] [bJ zB 1 4 1 [(.bool d.aT[k])],li,kp,gd,az xN xO 56 1 ((dO qs)++[(.slice kb j kc)]),jz,fR,iB,gn,eH] (cw 3 qs) F F),?_⟩)⟩,trivial⟩ (by kernel_rfl)
    refine lH 14 F (by kernel_rfl) (bu dm fx) ?_
    refine gz [13] (by kernel_rfl) F ⟨⟨_,F,F,dE 5 eS eS gq F F F F (by rw[ai];omega) (by decide) (Src.row (j:=0) F (by simp)) (by simp[fS]) (by omega) (by decide) (by decide) (fun p8 qV=>⟨.inr (fO [3,8] [bJ zB 1 4 1 [(.bool d.aT[k])],li,kp,gd,az xN xO 56 1 ((dO qs)++[(.slice kb j kc)]),az p8 qV 4 1 ((cO fs)++[(.bool d.aT[k])]),fR,iB,gn,eH] (cw 3 qs) F F),?_⟩)⟩,trivial⟩ (by kernel_rfl)
    refine gz [15] (by kernel_rfl) F ⟨⟨_,F,F,c8 [(.slice xN (qs.length+1) xO)] 3 fx ⟨.inl (by decide),?_⟩ F F F F⟩,trivial⟩ (by kernel_rfl)
    refine lH 16 F (by kernel_rfl) (bu dm e7) ?_
    refine gz [17] (by kernel_rfl) F ⟨⟨_,F,F,c8 [(.slice p8 (fs.length+1) qV)] 3 e7 ⟨.inl (by decide),?_⟩ F F F F⟩,trivial⟩ (by kernel_rfl)
    exact im (by kernel_rfl) ⟨xN,xO,p8,qV,F,(.of F)⟩ (by show Sub _ ([bJ zB 1 4 1 [(.bool d.aT[k])],bJ zA 1 56 1 [(.slice kb j kc)],az kb kc 3 1 (cm ((gE cs d.next[k]).take j)),oI z4 25 [(vI d.vars),(vN (cs.getD d.start.toNat 0)),(.slice xN (qs.length+1) xO),(.slice p8 (fs.length+1) qV)],az xN xO 56 1 ((dO qs)++[(.slice kb j kc)]),az p8 qV 4 1 ((cO fs)++[(.bool d.aT[k])]),oI z3 56 [(.slice cb d.next.length cc)],az cb cc 3 1 (cm cs),oI z2 25 [(vI 0),(vI 0),nS,nS],oI z1 25 [(vI d.vars),(vI d.start),(.slice nb d.next.length nc),(.slice fb d.aT.length fc)]]++cw 3 qs);rw[hR];exact iq [bJ zB 1 4 1 [(.bool d.aT[k])],bJ zA 1 56 1 [(.slice kb j kc)]])
   refine gz [3] (by kernel_rfl) F ⟨⟨_,F,F,dL (v:=(.slice kb j kc)) eY eo F F F (fun zA=>⟨.inr (fO [3,8] [bJ zA 1 56 1 [(.slice kb j kc)],bJ zB 1 4 1 [(.bool d.aT[k])],kp,gd,np,jz,fR,iB,gn,eH] (cw 3 qs) F F),?_⟩)⟩,trivial⟩ (by kernel_rfl)
   refine gz [4] (by kernel_rfl) F ⟨⟨_,F,F,dE 4 eY eY eo F F F F (by rw[ai];omega) (by decide) (Src.row (j:=0) F (by simp)) (by simp[fS]) (by omega) (by decide) (by decide) (fun xN xO=>⟨.inr (fO [3,8] [bJ zA 1 56 1 [(.slice kb j kc)],bJ zB 1 4 1 [(.bool d.aT[k])],kp,gd,az xN xO 56 1 ((dO qs)++[(.slice kb j kc)]),jz,fR,iB,gn,eH] (cw 3 qs) F F),?_⟩)⟩,trivial⟩ (by kernel_rfl)
   refine lH 14 F (by kernel_rfl) (bu dm fx) ?_
   refine gz [13] (by kernel_rfl) F ⟨⟨_,F,F,dE 5 eS eS gq F F F F (by rw[ai];omega) (by decide) (Src.row (j:=1) F (by simp)) (by simp[fS]) (by omega) (by decide) (by decide) (fun p8 qV=>⟨.inr (fO [3,8] [bJ zA 1 56 1 [(.slice kb j kc)],bJ zB 1 4 1 [(.bool d.aT[k])],kp,gd,az xN xO 56 1 ((dO qs)++[(.slice kb j kc)]),az p8 qV 4 1 ((cO fs)++[(.bool d.aT[k])]),fR,iB,gn,eH] (cw 3 qs) F F),?_⟩)⟩,trivial⟩ (by kernel_rfl)
   refine gz [15] (by kernel_rfl) F ⟨⟨_,F,F,c8 [(.slice xN (qs.length+1) xO)] 3 fx ⟨.inl (by decide),?_⟩ F F F F⟩,trivial⟩ (by kernel_rfl)
   refine lH 16 F (by kernel_rfl) (bu dm e7) ?_
   refine gz [17] (by kernel_rfl) F ⟨⟨_,F,F,c8 [(.slice p8 (fs.length+1) qV)] 3 e7 ⟨.inl (by decide),?_⟩ F F F F⟩,trivial⟩ (by kernel_rfl)
   exact im (by kernel_rfl) ⟨xN,xO,p8,qV,F,(.of F)⟩ (by show Sub _ ([bJ zA 1 56 1 [(.slice kb j kc)],bJ zB 1 4 1 [(.bool d.aT[k])],az kb kc 3 1 (cm ((gE cs d.next[k]).take j)),oI z4 25 [(vI d.vars),(vN (cs.getD d.start.toNat 0)),(.slice xN (qs.length+1) xO),(.slice p8 (fs.length+1) qV)],az xN xO 56 1 ((dO qs)++[(.slice kb j kc)]),az p8 qV 4 1 ((cO fs)++[(.bool d.aT[k])]),oI z3 56 [(.slice cb d.next.length cc)],az cb cc 3 1 (cm cs),oI z2 25 [(vI 0),(vI 0),nS,nS],oI z1 25 [(vI d.vars),(vI d.start),(.slice nb d.next.length nc),(.slice fb d.aT.length fc)]]++cw 3 qs);rw[hR];exact iq [bJ zA 1 56 1 [(.slice kb j kc)],bJ zB 1 4 1 [(.bool d.aT[k])]])
  rintro ρ O ⟨xN,xO,p8,qV,rfl,hH⟩
  obtain⟨gv,rfl⟩:=hH.elim
  clear hH
  refine .inl ⟨F,xN,p8,xO,qV,qs++[⟨kb,kc,(gE cs d.next[k]).map fun c:Nat=>(c:Int)⟩],fs++[d.aT[k]],?_,by omega,?_,?_⟩
  ·simp[Rec.val,jr,hjf]
  ·rw[ab9,←DX];simp
  ·rw[ab9,oF]
 ·refine⟨none,none,0,0,[],[],?_,bj _,F,F⟩
  rfl
 rintro v O' (⟨ob,x8,oc,x9,qs,fs,rfl,hk,DX,oF⟩|hF)
 rotate_left
 ·exact hF.elim
 refine⟨none,_,F,?_⟩
 refine br ?_
 have Kb:qs.length=(quo d cs).next.length:=by rw[show qs.length=(nums qs).length by simp,DX];rfl
 obtain rfl:fs=(quo d cs).aT:=oF
 rw[Kb]
 refine a_ (ae (eR 0 dm bY) ?_)
 let sJ:Lx.Item:=oI z4 25 [(vI d.vars),(vN (cs.getD d.start.toNat 0)),(.slice ob ((quo d cs).next.length) oc),(.slice x8 ((quo d cs).aT.length) x9)]
 let qM:Lx.Item:=oI z1 25 [(vI d.vars),(vI d.start),(.slice nb d.next.length nc),(.slice fb d.aT.length fc)]
 let y5:Lx.Item:=az x8 x9 4 1 (cO (quo d cs).aT)
 let Kd:Lx.Item:=oI z3 56 [(.slice cb d.next.length cc)]
 let Kf:Lx.Item:=az ob oc 56 1 (dO qs)
 let XH:Lx.Item:=az cb cc 3 1 (cm cs)
 have Ef:=fun(w1:World) (hI:Inv w ([sJ,Kf,y5,Kd,XH,gn,qM]++(cw 3 qs)) w1)=>(haveI:=eP hI;SL w1 (quo d cs) ob x8 oc x9 (dO qs) ⟨hI.ij (mG 1),(show nums qs=(quo d cs).next from DX)▸hI.Zc (fun q hq=>ah _ (List.mem_map_of_mem (f:=Rec.qW 3) hq)),hI.ij (mG 2)⟩ hqv hqn)
 refine TO.lc abt (aO Ef) ?_
 clear Ef
 rintro v O' ⟨N,rfl,DH,DI,p6,p7,qs',rfl,rfl,Qt⟩
 refine dW (O':=([az DH DI 56 1 (dO qs'),az p6 p7 4 1 (cO (eB (quo d cs)).aT),sJ,Kf,y5,Kd,XH,gn,qM]++((cw 3 qs')++(cw 3 qs)))) (iq []) ?_
 refine ae (bI _) (ae (bI _) (ax (c8 [(vI (eB (quo d cs)).vars),(vI (eB (quo d cs)).start),(.slice DH ((eB (quo d cs)).next.length) DI),(.slice p6 ((eB (quo d cs)).aT.length) p7)] 7 bY ?_)))
 refine aR ?_
 refine kO (vI 0) (i:=7) results23 dm F bY F F F F ?_
 exact⟨[az DH DI 56 1 (dO qs'),az p6 p7 4 1 (cO (eB (quo d cs)).aT)]++cw 3 qs',iq ([sJ,Kf,y5,Kd,XH,oI z2 25 [(vI (eB (quo d cs)).vars),(vI (eB (quo d cs)).start),(.slice DH ((eB (quo d cs)).next.length) DI),(.slice p6 ((eB (quo d cs)).aT.length) p7)],qM]++cw 3 qs),DH,DI,p6,p7,qs',F,F,Qt⟩
theorem afn (w:World) [dQ prog w] (d:c_) (nb fb:Option Addr) (nc fc:Nat) (vs:List Value) (h:jg w d nb vs fb) (hb:d.next.length<9223372036854775807) (uv: ∀r∈d.next,r.length<9223372036854775807) (wM:d.aT.length<9223372036854775807) (hn:Valid d→d.next.length<10000):
  cB prog 23 [.agg (fe d nb nc fb fc).toArray] w fun v N=> ∃DH DI p6 p7 qs,v=.tuple #[.agg (fe (Dh d) DH DI p6 p7).toArray,.int .i64 (di d:Int)]∧N=[az DH DI 56 1 (dO qs),az p6 p7 4 1 (cO (Dh d).aT)]++cw 3 qs∧nums qs=(Dh d).next:=by
 unfold Dh
 by_cases he:di d=0
 ·have hv:=eL.1 he
  obtain⟨q1,q2⟩:=IZ hv d.next.length
  rw[he,aB F]
  exact ab7 w d nb fb nc fc vs h hv (hn hv) q1 (by have:=hn hv;omega)
 ·rw[aq he]
  refine(gK 56 1 (gK 4 1 (XG w d nb fb nc fc vs h hb uv wM he))).mono ?_
  rintro v N ⟨O2,rfl,O3,rfl,rfl,rfl⟩
  exact⟨none,0,none,0,[],F,F,F⟩
theorem JA (w:World) [dQ prog w] (d e:c_) (FN FO FP p8:Option Addr) (JB JC JD qV:Nat) (vs us:List Value) (h1:jg w d FN vs FP) (h2:jg w e FO us p8) (hb:d.next.length<9223372036854775807) (uv: ∀r∈d.next,r.length<9223372036854775807) (wM:d.aT.length<9223372036854775807):
  cB prog 16 [.agg (fe d FN JB FP JD).toArray,.agg (fe e FO JC p8 qV).toArray] w fun v N=>v=.bool (decide (d=e))∧N=[]:=
 (uy (Di w d e FN FO FP p8 JB JC JD qV vs us h1 h2 hb uv wM)).mono fun v N ⟨h1,O2,h2,_⟩=>⟨h2,h1⟩
theorem JE (w:World) [dQ prog w] (d:c_) (FN FO FP p8:Option Addr) (JB JC JD qV:Nat) (vs us:List Value) (h1:jg w d FN vs FP) (h2:jg w d FO us p8) (hb:d.next.length<9223372036854775807) (uv: ∀r∈d.next,r.length<9223372036854775807) (wM:d.aT.length<9223372036854775807):
  cB prog 16 [.agg (fe d FN JB FP JD).toArray,.agg (fe d FO JC p8 qV).toArray] w fun v N=>v=.bool true∧N=[]:=
 (JA w d d FN FO FP p8 JB JC JD qV vs us h1 h2 hb uv wM).mono fun v N ⟨h1,h2⟩=>⟨h1.trans (am Value.bool (aZ F)),h2⟩
theorem ie.u8 {P:Program} {kt:TypeId} {k:IntKind} (hu:P.underlying kt=some (.int k)):ie P kt (fun a:Nat=>Value.int .u8 (a:Int)) where
 check:=fun e a w=>by
  show(Instr.checkKey e (9999+1) kt _).run P w=_
  rw[Instr.checkKey]
  simp[bL hu,str]
 find:=fun es ks a w h=>by
  have key: ∀(es:List MapEntry) (ks:List Nat) (i:Nat),es.map (·.key)=ks.map (fun a:Nat=>Value.int .u8 (a:Int))→Instr.findNow (.int k) (.int .u8 (a:Int)) es i=some (mn a ks es i):=by
   intro es
   induction es with
   |nil=>intro ks i h;cases ks<;>simp_all[Instr.findNow,mn]
   |cons e es ih=>
    intro ks i h
    cases ks with
    |nil=>simp at h
    |cons b ks=>
     simp only[cJ,List.cons.injEq]at h
     simp only[Instr.findNow,h.1,Instr.sameNow,if_true,mn]
     by_cases e:a=b
     ·simp[e]
     ·have:((a:Int)==(b:Int))=false:=by rw[beq_eq_false_iff_ne];omega
      simp[this,e,ih ks (i+1) h.2]
  simp[Instr.findKey,bL hu,key es ks 0 h]
def j6:Nat→List UInt8×List UInt8×List UInt8
 |4=>([40],[46],[41])|5=>([40],[124],[41])|6=>([40],[38],[41])|7=>([40,126],[],[41])|8=>([40],[],[42,41])|9=>([40,62],[],[41])|10=>([40,60],[],[41])|_=>([],[],[])
def cX (n:Nat):Nat:=if n=4∨n=5∨n=6 then 2 else if n=7∨n=8∨n=9∨n=10 then 1 else 0
def EM (n:Nat):Value:=.agg #[vI (cX n:Int),str (j6 n).1,str (j6 n).2.1,str (j6 n).2.2]
abbrev BE (m:Nat):Lx.Item:=dZ (fun a:Nat=>Value.int .u8 (a:Int)) EM m [(4,4),(5,5),(6,6),(7,7),(8,8),(9,9),(10,10)]
theorem vi (n:Nat):((mU n [(4,4),(5,5),(6,6),(7,7),(8,8),(9,9),(10,10)]).map EM).getD (.agg #[vI 0,str [],str [],str []])=EM n:=by
 by_cases h:4≤n∧n≤10
 ·obtain⟨h1,h2⟩:=h
  have:n=4∨n=5∨n=6∨n=7∨n=8∨n=9∨n=10:=by omega
  rcases this with rfl|rfl|rfl|rfl|rfl|rfl|rfl<;>rfl
 ·have h4:n≠4:=by omega
  have h5:n≠5:=by omega
  have h6:n≠6:=by omega
  have h7:n≠7:=by omega
  have h8:n≠8:=by omega
  have h9:n≠9:=by omega
  have xG:n≠10:=by omega
  have hx:j6 n=([],[],[]):=by unfold j6;split<;>first|omega|rfl
  have hc:cX n=0:=by unfold cX;rw[aq (by omega),aq (by omega)]
  unfold EM;rw[hx,hc]
  simp[mU,h4,h5,h6,h7,h8,h9,xG]
def xI (v p n:Nat):Nat:=if 2^v≤(p|||n)then 7 else if p&&&n≠0 then 2 else 0
def jZ (v:Nat) (x:ei):Nat:=if x.op<1∨10<x.op then 6 else if(x.op≠3∧(x.p|||x.n)≠0)∨(cX x.op<1∧x.a≠0)∨(cX x.op<2∧x.b≠0)then 2 else if x.op=3 then xI v x.p x.n else 0
theorem qy (w:World) [dQ prog w]:
  cB prog 56 [] w fun v N=> ∃m,v=.map (some m)∧N=[BE m]:=by
 refine aA func56 F ntmps56 F ?_
 refine aQ (aj (aQ (ax (mA (fun a:Nat=>Value.int .u8 (a:Int)) EM (fun m1=>?_)))))
 refine ae (dc [vI 2,(str [40]),(str [46]),(str [41])] ue mw (by kernel_rfl)) (ax (gA (a:=(4:Nat)) (v:=(4:Nat)) 0 xJ (ie.u8 il) F F F F (by decide) ?_))
 refine ae (dc [vI 2,(str [40]),(str [124]),(str [41])] ue mw (by kernel_rfl)) (ax (gA (a:=(5:Nat)) (v:=(5:Nat)) 0 xJ (ie.u8 il) F F F F (by decide) ?_))
 refine ae (dc [vI 2,(str [40]),(str [38]),(str [41])] ue mw (by kernel_rfl)) (ax (gA (a:=(6:Nat)) (v:=(6:Nat)) 0 xJ (ie.u8 il) F F F F (by decide) ?_))
 refine ae (dc [vI 1,(str [40,126]),(str []),(str [41])] ue mw (by kernel_rfl)) (ax (gA (a:=(7:Nat)) (v:=(7:Nat)) 0 xJ (ie.u8 il) F F F F (by decide) ?_))
 refine ae (dc [vI 1,(str [40]),(str []),(str [42,41])] ue mw (by kernel_rfl)) (ax (gA (a:=(8:Nat)) (v:=(8:Nat)) 0 xJ (ie.u8 il) F F F F (by decide) ?_))
 refine ae (dc [vI 1,(str [40,62]),(str []),(str [41])] ue mw (by kernel_rfl)) (ax (gA (a:=(9:Nat)) (v:=(9:Nat)) 0 xJ (ie.u8 il) F F F F (by decide) ?_))
 refine ae (dc [vI 1,(str [40,60]),(str []),(str [41])] ue mw (by kernel_rfl)) (ax (gA (a:=(10:Nat)) (v:=(10:Nat)) 0 xJ (ie.u8 il) F F F F (by decide) ?_))
 refine aN (aR ?_)
 refine aF (.map (some m1)) results56 F ?_
 exact⟨[BE m1],Sub.rf,m1,F,F⟩
theorem Hb (w:World) [dQ prog w] (p n v:Nat) (hp:p<256) (hn:n<256) (hv:v≤6):
  cB prog 171 [.agg #[v8 p,v8 n],vN v] w fun r N=>r=vI (xI v p n:Int)∧N=[]:=by
 refine aA func171 F ntmps171 F ?_
 have QQ:2^v≤2^6:=ck (by decide) hv
 have hor:(p|||n)<2^8:=Nat.or_lt_two_pow hp hn
 refine aQ (ax (ef [v8 p,v8 n] (fun om=>?_)))
 refine aj (br (aK (br (bo (aY cV (by omega)) (aN (ao aw (ao (aY gT (by omega)) (ae bU (aj (bf ?_))))))))))
 refine fW [(0,0),(1,0),(2,0),(3,0),(4,0),(5,0),(6,0),(7,0),(8,0),(9,0)] ?_
 refine ap F (bu l7 eN) (ap F (bF 0 il) (ap F (bu l7 eN) (ap F (bF 0 il) (ap F (Vh (a:=p) (b:=n) .u8 F F (by simp only[IntKind.bits];omega) (by simp only[IntKind.bits];omega)) (ap F (gi il eO F (gX (by omega))) (ap F aw (ap F (o8 (v:=v) F F (by omega)) (ap F km (ap F cz ?_)))))))))
 refine cy ?_
 refine aL F (fun hc=>?_) (fun hc=>?_)
 ·have adM:p|||n≥2^v:=by omega
  refine aQ (aR ?_)
  refine aF (vI 7) results171 F ?_
  exact⟨[],Sub.z,by unfold xI;rw[aB (by omega)];rfl,F⟩
 have adN: ¬p|||n≥2^v:=by omega
 refine aG (bu l7 eN) (ae (bF 0 il) (ae (bu l7 eN) (ae (bF 0 il) (ae (Bj (a:=p) (b:=n) .u8 F F (by show _<256;omega) (by show _<256;omega)) (ae d_ (aj (aL F (fun hc=>?_) (fun hc=>?_))))))))
 ·have re:p&&&n≠0:=by omega
  refine aQ (aR ?_)
  refine aF (vI 2) results171 F ?_
  exact⟨[],Sub.z,by unfold xI;rw[aq (by omega),aB (by omega)];rfl,F⟩
 have rh: ¬p&&&n≠0:=by omega
 refine aE (aQ (aR ?_))
 refine aF (vI 0) results171 F ?_
 exact⟨[],Sub.z,by unfold xI;rw[aq (by omega),aq (by omega)];rfl,F⟩
theorem WV (w:World) [dQ prog w] (x:ei) (v:Nat) (hp:x.p<256) (hn:x.n<256) (hv:v≤6):
  cB prog 127 [x.ag,vN v] w fun r N=>r=vI (jZ v x:Int)∧N=[]:=by
 refine aA func127 F ntmps127 F ?_
 have hor:(x.p|||x.n)<2^8:=Nat.or_lt_two_pow hp hn
 refine aQ (ax (ef x.cl (fun z1=>?_)))
 refine aj ?_
 let eH:Value:=vN (cX x.op)
 refine fF (fun ρ O=> ∃(m zo:Nat),O=[BE m,oI zo 96 [eH,str (j6 x.op).1,str (j6 x.op).2.1,str (j6 x.op).2.2],oI z1 72 x.cl]∧dh [(0,x.ag),(1,vN v),(2,(.pointer (aD z1))),(4,vI 0),(5,(.pointer (aD zo)))] ρ) ?_ ?_
 ·refine pq [oI z1 72 x.cl] 6 mixed F (by exact Sub.rf) (fun _ _ _ _ h=>h) ?_
  refine cI 1 F (by kernel_rfl) (bu dz eN) ?_
  refine cI 2 F (by kernel_rfl) (bF 0 il) ?_
  have MV:=fun(w1:World) (hI:Inv w [oI z1 72 x.cl] w1)=>(haveI:=eP hI;qy w1)
  refine cS [0,4] (by kernel_rfl) F ⟨⟨_,F,F,eh Iy (aO MV) ?_⟩,⟨_,F,F,b_ mw (fun zo=>⟨by exact Sub.d (.k .z),?_⟩)⟩,trivial⟩
  ·clear MV
   rintro vr O' ⟨N,rfl,m,rfl,rfl⟩
   refine⟨by exact Sub.d (.k .z),?_⟩
   let gd:Value:=(.agg #[eH,str (j6 x.op).1,str (j6 x.op).2.1,str (j6 x.op).2.2])
   refine cS [3,4] (by kernel_rfl) F ⟨⟨_,F,F,eV F F (cg (ry (a:=x.op) xJ mw (ie.u8 il) F F (mG 0)) (v':=gd) (vi x.op)) ⟨by exact Sub.d (.k .z),?_⟩⟩,⟨_,F,F,b_ mw (fun zo=>⟨by exact Sub.d (.d (.k .z)),?_⟩)⟩,trivial⟩
   ·refine cS [4] (by kernel_rfl) F ⟨⟨_,F,F,b_ mw (fun zo=>⟨by exact Sub.d (.d (.k .z)),?_⟩)⟩,trivial⟩
    refine cS [5] (by kernel_rfl) F ⟨⟨_,F,F,c8 [eH,str (j6 x.op).1,str (j6 x.op).2.1,str (j6 x.op).2.2] 0 mw ⟨by exact Sub.d (.d (.k .z)),?_⟩ F F F F⟩,trivial⟩
    exact im (by kernel_rfl) ⟨m,zo,F,(.of F)⟩ (by exact Sub.fz [oI zo 96 [eH,str (j6 x.op).1,str (j6 x.op).2.1,str (j6 x.op).2.2]] _ (.k (.k .z)))
   refine cS [3] (by kernel_rfl) F ⟨⟨_,F,F,eV F F (cg (ry (a:=x.op) xJ mw (ie.u8 il) F F (mG 1)) (v':=gd) (vi x.op)) ⟨by exact Sub.d (.d (.k .z)),?_⟩⟩,trivial⟩
   refine cS [5] (by kernel_rfl) F ⟨⟨_,F,F,c8 [eH,str (j6 x.op).1,str (j6 x.op).2.1,str (j6 x.op).2.2] 0 mw ⟨by exact Sub.d (.d (.k .z)),?_⟩ F F F F⟩,trivial⟩
   exact im (by kernel_rfl) ⟨m,zo,F,(.of F)⟩ (by exact Sub.fz [oI zo 96 [eH,str (j6 x.op).1,str (j6 x.op).2.1,str (j6 x.op).2.2]] _ (.k (.k .z)))
  refine cS [0] (by kernel_rfl) F ⟨⟨_,F,F,eh Iy (aW qy) ?_⟩,trivial⟩
  rintro vr O' ⟨N,rfl,m,rfl,rfl⟩
  refine⟨by exact Sub.d (.d (.k .z)),?_⟩
  refine cS [3] (by kernel_rfl) F ⟨⟨_,F,F,eV F F (cg (ry (a:=x.op) xJ mw (ie.u8 il) F F (mG 0)) (v':=(.agg #[eH,str (j6 x.op).1,str (j6 x.op).2.1,str (j6 x.op).2.2])) (vi x.op)) ⟨by exact Sub.d (.d (.k .z)),?_⟩⟩,trivial⟩
  refine cS [5] (by kernel_rfl) F ⟨⟨_,F,F,c8 [eH,str (j6 x.op).1,str (j6 x.op).2.1,str (j6 x.op).2.2] 1 mw ⟨by exact Sub.d (.d (.k .z)),?_⟩ F F F F⟩,trivial⟩
  exact im (by kernel_rfl) ⟨m,zo,F,(.of F)⟩ (by exact Sub.rf)
 rintro ρ O ⟨m,zo,rfl,hH⟩
 obtain⟨gv,rfl⟩:=hH.elim
 clear hH
 refine br (aK (aG (bu dz eN) (ae (bF 2 il) (ae cV ?_))))
 by_cases h1:((x.op:Nat):Int)<1
 ·refine ae (bn aw h1) ?_
  refine cY (cK (ae bw (aj ?_)))
  refine bW ?_
  refine aQ (aR ?_)
  refine aF (vI 6) results127 F ?_
  exact⟨[],Sub.z,by unfold jZ;rw[aB (by omega)];rfl,F⟩
 refine ae (aY aw h1) (ao (bu dz eN) (ao (bF 2 il) (ao gT (ae bU (aj (aL F (fun hc=>?_) (fun hc=>?_)))))))
 ·have mu:x.op>10:=by omega
  refine aQ (aR ?_)
  refine aF (vI 6) results127 F ?_
  exact⟨[],Sub.z,by unfold jZ;rw[aB (by omega)];rfl,F⟩
 have w6: ¬x.op>10:=by omega
 refine fF (fun ρ O=>Sub [BE m,oI zo 96 [eH,str (j6 x.op).1,str (j6 x.op).2.1,str (j6 x.op).2.2],oI z1 72 x.cl] O∧dh [(0,x.ag),(1,vN v),(2,(.pointer (aD z1))),(4,vI 0),(5,(.pointer (aD zo))),(10,.bool (decide (((x.op:Nat):Int)>10))),(19,.bool (decide ((x.op≠3∧(x.p|||x.n)≠0)∨(cX x.op<1∧x.a≠0)∨(cX x.op<2∧x.b≠0))))] ρ) ?_ ?_
 ·refine br ?_
  refine a_ (ae (bu dz eN) (ae (bF 2 il) (ae d_ ?_)))
  by_cases h3:((x.op:Nat):Int)≠3
  ·refine ae (bn aw h3) ?_
   refine ao (bu dz eN) (ao (bF 2 il) (ao (bu dz eN) (ao (bF 2 il) (ao (Vh (a:=x.p) (b:=x.n) .u8 F F (by simp only[IntKind.bits];omega) (by simp only[IntKind.bits];omega)) (ao d_ (ae bw (aj (aL F (fun hc=>?_) (fun hc=>?_)))))))))
   ·have TY:x.p|||x.n≠0:=by omega
    refine aE ?_
    exact⟨(by exact Sub.rf),⟨F,F,F,F,F,F,(am Value.bool (decide_eq_decide.2 (by omega))),trivial⟩⟩
   have TZ: ¬x.p|||x.n≠0:=by omega
   refine aG (bu EN bM) (ae (bF 1 eO) (ae cV ?_))
   by_cases AD:((cX x.op:Nat):Int)<1
   ·refine ae (bn aw AD) ?_
    refine ao (bu dz bM) (ao (bF 2 eO) (ao d_ (ae bw (aj (aL F (fun hc=>?_) (fun hc=>?_))))))
    ·refine aE ?_
     exact⟨(by exact Sub.rf),⟨F,F,F,F,F,F,(am Value.bool (decide_eq_decide.2 (by omega))),trivial⟩⟩
    refine a_ (ae (bu EN bM) (ae (bF 1 eO) (ae cV ?_)))
    by_cases rH:((cX x.op:Nat):Int)<2
    ·refine ae (bn aw rH) ?_
     refine ao (bu dz bM) (ao (bF 2 eO) (ao d_ (ae bw (aj ?_))))
     exact⟨(by exact Sub.rf),⟨F,F,F,F,F,F,(am Value.bool (decide_eq_decide.2 (by omega))),trivial⟩⟩
    refine ae (aY aw rH) (cY (cK (ae bU (aj ?_))))
    exact⟨(by exact Sub.rf),⟨F,F,F,F,F,F,(am Value.bool (a8 (show¬((x.op≠3∧(x.p|||x.n)≠0)∨(cX x.op<1∧x.a≠0)∨(cX x.op<2∧x.b≠0)) by omega)).symm),trivial⟩⟩
   refine ae (aY aw AD) (cY (cK (ae bU (aj (bf (a_ ?_))))))
   refine ae (bu EN bM) (ae (bF 1 eO) (ae cV ?_))
   by_cases rH:((cX x.op:Nat):Int)<2
   ·refine ae (bn aw rH) ?_
    refine ao (bu dz bM) (ao (bF 2 eO) (ao d_ (ae bw (aj ?_))))
    exact⟨(by exact Sub.rf),⟨F,F,F,F,F,F,(am Value.bool (decide_eq_decide.2 (by omega))),trivial⟩⟩
   refine ae (aY aw rH) (cY (cK (ae bU (aj ?_))))
   exact⟨(by exact Sub.rf),⟨F,F,F,F,F,F,(am Value.bool (a8 (show¬((x.op≠3∧(x.p|||x.n)≠0)∨(cX x.op<1∧x.a≠0)∨(cX x.op<2∧x.b≠0)) by omega)).symm),trivial⟩⟩
  refine ae (aY aw h3) (cK (du (ae bU (aS ?_))))
  refine bi (bf (aG (bu EN bM) (ae (bF 1 eO) (ae cV ?_))))
  by_cases AD:((cX x.op:Nat):Int)<1
  ·refine ae (bn aw AD) ?_
   refine ao (bu dz bM) (ao (bF 2 eO) (ao d_ (ae bw (aj (aL F (fun hc=>?_) (fun hc=>?_))))))
   ·refine aE ?_
    exact⟨(by exact Sub.rf),⟨F,F,F,F,F,F,(am Value.bool (decide_eq_decide.2 (by omega))),trivial⟩⟩
   refine a_ (ae (bu EN bM) (ae (bF 1 eO) (ae cV ?_)))
   by_cases rH:((cX x.op:Nat):Int)<2
   ·refine ae (bn aw rH) ?_
    refine ao (bu dz bM) (ao (bF 2 eO) (ao d_ (ae bw (aj ?_))))
    exact⟨(by exact Sub.rf),⟨F,F,F,F,F,F,(am Value.bool (decide_eq_decide.2 (by omega))),trivial⟩⟩
   refine ae (aY aw rH) (cY (cK (ae bU (aj ?_))))
   exact⟨(by exact Sub.rf),⟨F,F,F,F,F,F,(am Value.bool (a8 (show¬((x.op≠3∧(x.p|||x.n)≠0)∨(cX x.op<1∧x.a≠0)∨(cX x.op<2∧x.b≠0)) by omega)).symm),trivial⟩⟩
  refine ae (aY aw AD) (cY (cK (ae bU (aj (bf (a_ ?_))))))
  refine ae (bu EN bM) (ae (bF 1 eO) (ae cV ?_))
  by_cases rH:((cX x.op:Nat):Int)<2
  ·refine ae (bn aw rH) ?_
   refine ao (bu dz bM) (ao (bF 2 eO) (ao d_ (ae bw (aj ?_))))
   exact⟨(by exact Sub.rf),⟨F,F,F,F,F,F,(am Value.bool (decide_eq_decide.2 (by omega))),trivial⟩⟩
  refine ae (aY aw rH) (cY (cK (ae bU (aj ?_))))
  exact⟨(by exact Sub.rf),⟨F,F,F,F,F,F,(am Value.bool (a8 (show¬((x.op≠3∧(x.p|||x.n)≠0)∨(cX x.op<1∧x.a≠0)∨(cX x.op<2∧x.b≠0)) by omega)).symm),trivial⟩⟩
 rintro ρ O ⟨hS,hH⟩
 obtain⟨gv,rfl⟩:=hH.elim
 clear hH
 refine dq hS ?_
 refine aL F (fun hc=>?_) (fun hc=>?_)
 ·refine br ?_
  refine a_ (aR ?_)
  refine aF (vI 2) results127 F ?_
  exact⟨[],Sub.z,by unfold jZ;rw[aq (by omega),aB (by omega)];rfl,F⟩
 refine aG (bu dz eN) (ae (bF 2 il) (ae bN (aj (aL F (fun hc=>?_) (fun hc=>?_)))))
 ·have MN:x.op=3:=by omega
  refine aG (bu dz eN) (ae (bF 2 il) (ae (bu dz eN) (ae (bF 2 il) (ae (dc [v8 x.p,v8 x.n] uV jX (by kernel_rfl)) (aN (TO.lc WW (aO fun w1 hI=>(haveI:=eP hI;Hb w1 x.p x.n v hp hn hv)) ?_))))))
  rintro vr O' ⟨N,rfl,rfl,rfl⟩
  refine aR ?_
  refine aF (vI (xI v x.p x.n:Int)) results127 F ?_
  exact⟨[],Sub.z,by unfold jZ;rw[aq (by omega),aq (by omega),aB (by omega)],F⟩
 have MT: ¬x.op=3:=by omega
 refine aE (aQ (aR ?_))
 refine aF (vI 0) results127 F ?_
 exact⟨[],Sub.z,by unfold jZ;rw[aq (by omega),aq (by omega),aq (by omega)];rfl,F⟩
theorem ZW (base:World) [dQ prog base] (b:Option Addr) (c m:Nat) (l:List UInt8) (hl:l.length=m) (hm:m≤900000):
  cx prog base 210 [.slice b m c,vI (-1),vI 10] [az b c 5 1 (dy l)] (fun v O'=> ∃b' c',v=.slice b' (m+(lB (-1)).length) c'∧O'=[az b' c' 5 1 (dy (l++lB (-1)))]):=by
 refine aA func210 F ntmps210 F ?_
 refine aQ (aj (bo (Mi uT2 ZX F) (aS (bq (aN (aX cV ?_))))))
 refine bW ?_
 refine a7 (ax (dL (v:=.int .u8 45) kR eN F F F (fun om=>?_)))
 refine ax (dE 1 kR kR eN F F F F (by simp[hl]) (by decide) (Src.row (j:=0) F (by simp)) (by simp[fS]) (by omega) (by decide) (by decide) (fun y9 c3=>?_))
 refine aj (a_ (ay (ZY F) (aj (a7 (de ?_)))))
 have oh:=(cx.sub (O':=[az y9 c3 5 1 (dy (l++[45]))]) (O:=[bJ om 1 5 1 [.int .u8 45],az y9 c3 5 1 ((dy l)++[.int .u8 45])]) (by rw[show dy (l++[45])=dy l++[Value.int .u8 45]from bm];exact(by exact Sub.d (.k .z))) (D_ base y9 c3 0 (m+1) 1 (l++[45]) (by simp[hl]) (by decide) (by omega)))
 refine TO.lc Na oh ?_
 clear oh
 rintro vr O' ⟨b9,c9,rfl,rfl⟩
 refine aj (cM ?_)
 refine aF (.slice b9 (m+1+(Lib.decDigits 1).length) c9) results210 F ?_
 exact⟨b9,c9,by simp[lB,Lib.decDigits,Nat.add_assoc],by simp[lB,Lib.decDigits]⟩
theorem aeb (base:World) [dQ prog base] (b:Option Addr) (c m:Nat) (l:List UInt8) (hl:l.length=m) (hm:m≤900000):
  cx prog base 160 [.slice b m c,vI (-1),vI 10] [az b c 5 1 (dy l)] (fun v O'=> ∃b' c',v=.slice b' (m+(lB (-1)).length) c'∧O'=[az b' c' 5 1 (dy (l++lB (-1)))]):=by
 refine aA func160 F ntmps160 F ?_
 refine aQ (aj (a7 (de ?_)))
 have rL:=ZW base b c m l hl hm
 refine TO.lc Nb rL ?_
 clear rL
 rintro vr O' ⟨b2,c2,rfl,rfl⟩
 refine aj (cM ?_)
 refine aF (.slice b2 (m+(lB (-1)).length) c2) results160 F ?_
 exact⟨b2,c2,F,F⟩
theorem ZZ (base:World) [dQ prog base] (b:Option Addr) (c m:Nat) (l:List UInt8) (n:Int) (hl:l.length=m) (hn:nH n) (hm:m≤900000):
  cx prog base 160 [.slice b m c,vI n,vI 10] [az b c 5 1 (dy l)] (fun v O'=> ∃b' c',v=.slice b' (m+(lB (n)).length) c'∧O'=[az b' c' 5 1 (dy (l++lB (n)))]):=by
 by_cases h:n= -1
 ·subst h;exact aeb base b c m l hl hm
 ·rcases hn with hn|⟨h0,h1⟩
  ·contradiction
  ·obtain⟨k,rfl⟩:=Int.eq_ofNat_of_zero_le h0
   have h9:=VN base b c 0 m k l hl (by omega) (by omega)
   unfold lB;rw[aq h];exact h9
theorem TP (base:World) [dQ prog base] (b lb:Option Addr) (c m lc:Nat) (xs:List UInt8) (l:List Int) (hx:xs.length=m) (hL:Sl base lb (ints l)) (hn: ∀n∈l,nH n) (hm:m+13*l.length≤800000):
  cx prog base 112 [.slice b m c,.slice lb l.length lc] [az b c 5 1 (dy xs)] (fun v O'=> ∃b' c',v=.slice b' (m+(jw l).length) c'∧O'=[az b' c' 5 1 (dy (xs++jw l))]):=by
 refine aA func112 F ntmps112 F ?_
 refine aQ (aS (bq (ay (cL da) (bH (aK ?_)))))
 refine ep (fun(i:Nat) ρ O=> ∃(jb:Option Addr) (jc:Nat),O=[az jb jc 5 1 (dy (xs++jw (l.take i)))]∧i≤l.length∧dh [(0,(.slice jb (m+(jw (l.take i)).length) jc)),(1,(.slice lb l.length lc)),(4,nS),(7,(.slice lb l.length lc)),(8,vI (l.length:Int)),(9,vN i)] ρ) (fun i=>l.length-i) 0 ?_ ?_
 ·exact⟨b,c,by simp[jw],bj _,⟨(by show Value.slice b m c=_;simp[jw]),F,F,F,F,F,trivial⟩⟩
 rintro i ρ O ⟨jb,jc,rfl,hi,hH⟩
 obtain⟨gv,rfl⟩:=hH.elim
 clear hH
 have Ic:=qu (l:=l.take i) fun n h=>hn n (List.mem_of_mem_take h)
 have gQ:=List.length_take_le i l
 refine aG cV (dJ (aL F (fun hc=>?_) (fun hc=>?_)))
 ·have mu:i<l.length:=by omega
  have hdl:=rO (hn _ (av mu))
  refine aE (br (aK (aG (dB i da bM F F (a6 hL)) (ae (dD eO F F hL gL) (aj (a_ (de ?_)))))))
  have Nc:=ZZ base jb jc (m+(jw (l.take i)).length) (xs++jw (l.take i)) l[i] (by simp[hx]) (hn _ (av mu)) (by omega)
  refine TO.lc Co Nc ?_
  clear Nc
  rintro vr O' ⟨b2,c2,rfl,rfl⟩
  refine ax (dL (v:=.int .u8 32) kR eN F F F (fun om=>?_))
  refine ax (dE 1 kR kR eN F F F F (by simp[hx,Nat.add_assoc]) (by decide) (Src.row (j:=0) F (by simp)) (by simp[fS]) (by have:=rO (hn _ (av mu));omega) (by decide) (by decide) (fun y9 c3=>?_))
  refine aj (a_ (ae (dj (b:=1) i F F (by omega)) (bH ?_)))
  have e9:=Ea mu
  exact⟨i+1,by omega,[az y9 c3 5 1 ((dy (xs++jw (l.take i)++lB l[i]))++[.int .u8 32])],(by exact Sub.d (.k .z)),y9,c3,by rw[e9,←aV,←aV,show dy (xs++jw (l.take i)++lB l[i]++[32])=dy (xs++jw (l.take i)++lB l[i])++[Value.int .u8 32]from bm],by omega,⟨(am (fun n9=>Value.slice y9 n9 c3) (show m+(jw (l.take i)).length+(lB l[i]).length+1=m+(jw (l.take (i+1))).length by rw[e9];simp only[aJ,bQ,dx,Nat.add_assoc])),F,F,F,F,F,trivial⟩⟩
 have w6: ¬i<l.length:=by omega
 refine cD ?_
 refine a7 (aj (cM ?_))
 refine aF (.slice jb (m+(jw (l.take i)).length) jc) results112 F ?_
 have xF:i=l.length:=by omega
 subst xF
 rw[List.take_length]
 exact⟨jb,jc,F,F⟩
theorem oo (w:World) [dQ prog w] (cb:Nat) (eb:Option Addr) (en ec vs B:Nat) (hc:Sl w (aD cb) [.slice eb en ec,vI (vs:Int),vI (B:Int)]) (d:c_) (k:DK) (e:Int):
  dT prog w (.iface 163 (.agg #[])) 101 [(eJ cb 0),dV d k,vI e] [] (fun v N=>v=dV d k∧N=[]∧e=0∧d.next.length≤B) (¬(e=0∧d.next.length≤B)):=by
 refine ek func101 F ntmps101 F ?_
 refine aQ (ax (ef ((dC d k)) (fun om=>?_)))
 refine ax (b_ bY (fun y9=>?_))
 refine dJ (br ?_)
 refine fW [(0,0),(1,0),(2,0),(3,0),(4,0),(5,0),(6,0),(7,0),(8,0),(9,0),(10,0),(11,0)] ?_
 refine ap F aw ?_
 by_cases he:e≠0
 ·refine ap F (bn d_ he) ?_
  refine ap F aw (aU F F F (aU F F F (aU F F F (aU F F F (aU F F F (aU F F F (aU F F F ?_)))))))
  refine aU F F F (ap F bw ?_)
  refine cy ?_
  refine bW ?_
  refine a_ (ae (dc _ xW Cp F) (ae (sL Ie F) ?_))
  exact eU F (xX F (fun _=>⟨F,fun h9=>by omega⟩))
 refine ap F (aY d_ he) (ap F aw ?_)
 refine bs F F F (bu dm fx) ?_
 refine bs F F F (bF 1 eY) ?_
 refine bs F F F (cL eY) ?_
 refine bs F F F aw ?_
 refine bs F F F bg ?_
 refine bs F F F (cF mj F bM F F (a6 hc) (by first|omega|(simp;done)|(simp;omega)|(simp_all;done)|(simp_all;omega))) ?_
 refine bs F F F (dD eO F F hc F) ?_
 refine bs F F F gT ?_
 refine ap F bU ?_
 refine cy ?_
 refine aL F (fun hc=>?_) (fun hc=>?_)
 ·have Tj:d.next.length>B:=by omega
  refine a_ (ae (dc _ xW Cp F) (ae (sL Ie F) ?_))
  exact eU F (xX F (fun _=>⟨F,fun h9=>by omega⟩))
 have A3: ¬d.next.length>B:=by omega
 have HR:d.next.length≤B:=by omega
 refine aE (aG (eR 1 dm bY) (ax (c8 ((dC d k)) 0 bY ?_)))
 refine dP ?_
 refine cQ (i:=0) results101 dm F bY F F F ?_
 exact⟨[],Sub.z,F,F,by omega,HR⟩
theorem sM {α:Type} {p:α→Bool} {xs:List α} {k:Nat} (h:k<xs.length) (ha:(xs.take k).any p=false) (hp:p xs[k]=false):(xs.take (k+1)).any p=false:=by
 rw[aC h,List.any_append,ha];simp[hp]
theorem RH {p:Int→Bool} {xs:List Int} {i:Int} (h:(xs.any p=false∧i= -1)∨ ∃k:Nat,i=(k:Int)∧k<xs.length∧(xs.take k).any p=false∧p (xs.getD k 0)=true):decide (i≥0)=xs.any p:=by
 rcases h with⟨h1,rfl⟩|⟨k,rfl,h1,_,h2⟩
 ·rw[h1];decide
 ·rw[show xs.any p=true from List.any_eq_true.2 ⟨_,av h1,by rwa[au,ak h1]at h2⟩];exact aZ (by omega)
theorem Cq {α:Type} {p:α→Bool} {xs:List α} {k:Nat} (h:k<xs.length) (hp:p xs[k]=true):xs.any p=true:=List.any_eq_true.2 ⟨_,av h,hp⟩
theorem tT (base:World) [dQ prog base] (b:Option Addr) (c:Nat) (xs:List Int) (hS:Sl base b (ints xs)) (hb:xs.length<9223372036854775807) (fv:Value) (p:Int→Bool) (OO:List Lx.Item) (hy: ∀x∈xs,fh prog base fv [vI x] OO (fun v O'=>v=.bool (p x)∧O'=OO)):
  cx prog base 194 [.slice b xs.length c,fv] OO (fun v O'=> ∃i:Int,v=vI i∧((xs.any p=false∧i= -1)∨ ∃k:Nat,i=(k:Int)∧k<xs.length∧(xs.take k).any p=false∧p (xs.getD k 0)=true)∧O'=OO):=by
 refine aA func194 F ntmps194 F ?_
 refine aQ (aS (bq (ay (cL da) (bH (aK ?_)))))
 refine dU (fun(k:Nat) ρ O=>O=OO∧k≤xs.length∧(xs.take k).any p=false∧dh [(0,(.slice b xs.length c)),(1,fv),(7,vI (xs.length:Int)),(8,vI (k:Int))] ρ) (fun k=>xs.length-k) 0 ?_ ?_
 ·exact⟨F,bj _,F,⟨F,F,F,F,trivial⟩⟩
 rintro k ρ O ⟨rfl,hk,iO,hH⟩
 obtain⟨gv,rfl⟩:=hH.elim
 clear hH
 refine aG cV (dJ (aL F (fun hc=>?_) (fun hc=>?_)))
 ·have lQ:k<xs.length:=by omega
  refine aE (br (aK (a7 (aj (a7 (aN (ay (dB k da bM F F (a6 hS) lQ (by rw[ai];exact lQ)) (ae (dD eO F F hS (gL lQ)) ?_))))))))
  have rP:=hy xs[k] (av lQ)
  refine ax (fT rP F F ?_)
  clear rP
  rintro vr O' ⟨rfl,rfl⟩
  refine bi (T.cond F (fun hc=>?_) (fun hc=>?_))
  ·refine br ?_
   refine a_ (aN (aR ?_))
   refine aF (vI (k:Int)) results194 F ?_
   exact⟨_,cd (aP _),k,F,.inr ⟨k,F,lQ,iO,by rw[au,ak lQ];exact hc⟩,F⟩
  refine aE (a_ (ae (dj (b:=1) k F F (by omega)) (bH ?_)))
  exact⟨k+1,by omega,F,by omega,sM lQ iO hc,⟨F,F,F,F,trivial⟩⟩
 have Nd: ¬k<xs.length:=by omega
 refine cD ?_
 refine aQ (aR ?_)
 refine aF (vI (-1)) results194 F ?_
 exact⟨_,cd (aP _), -1,F,.inl ⟨by rw[bt (by omega)]at iO;exact iO,F⟩,F⟩
theorem AG (base:World) [dQ prog base] (b:Option Addr) (c:Nat) (xs:List Int) (hS:Sl base b (ints xs)) (hb:xs.length<9223372036854775807) (fv:Value) (p:Int→Bool) (OO:List Lx.Item) (hy: ∀x∈xs,fh prog base fv [vI x] OO (fun v O'=>v=.bool (p x)∧O'=OO)):
  cx prog base 195 [.slice b xs.length c,fv] OO (fun v O'=>v=.bool (xs.any p)∧O'=OO):=by
 refine aA func195 F ntmps195 F ?_
 refine aQ (aj (a7 (aN ?_)))
 have Eb:=tT base b c xs hS hb fv p OO hy
 refine TO.lc GD Eb ?_
 clear Eb
 rintro v O' ⟨i,rfl,hi,rfl⟩
 refine ae km (aR ?_)
 refine aF (.bool (decide (i≥0))) results195 F ?_
 exact⟨_,cd (aP _),am Value.bool (RH hi),F⟩
theorem aec (base:World) [dQ prog base] (d:c_) (k:DK) (ha:At base d k) (hv:Valid d) (z1 s:Nat) (hs:s<d.next.length):
  cx prog base 196 [vN s,.pointer (aD z1)] [oI z1 25 (dC d k)] (fun v O'=>v=.bool (dR d s)∧O'=[oI z1 25 (dC d k)]):=by
 refine aA func196 F ntmps196 F ?_
 refine aQ (aj (aG (bu dm e7) (ae (bF 0 eS) (ay (dB s eS gq F F (a6 ha.aT) (by rw[hv.fin];exact hs) (by rw[ai,hv.fin];exact hs)) (ae (dD uT F F ha.aT (qe hv hs)) (aj (cM ?_)))))))
 refine aF (.bool (dR d s)) results196 F ?_
 exact⟨F,F⟩
theorem xY (w:World) [dQ prog w] (d:c_) (k:DK) (ha:At w d k) (hv:Valid d) (b:Option Addr) (c:Nat) (l:List Nat) (hS:Sl w b (cm l)) (hl: ∀s∈l,s<d.next.length) (hb:l.length≤1000000):
  cB prog 148 [dV d k,.slice b l.length c] w fun v N=>v=.bool (l.any (dR d))∧N=[]:=by
 refine aA func148 F ntmps148 F ?_
 refine aQ (ax (ef ((dC d k)) (fun z1=>?_)))
 refine aj (bo (fI) ?_)
 have Eb:=(show cx _ _ _ _ _ _ from by
   have h9:=AG w b c (l.map fun y:Nat=>(y:Int)) (by rw[gN];exact hS) (by rw[ai];omega) (.func (.func 196) #[] #[.pointer (aD z1)]) (fun x=>dR d x.toNat) [oI z1 25 (dC d k)] (fun x hx=>by
    obtain⟨s,hs,rfl⟩:=List.mem_map.1 hx
    exact cZ (first:=[]) (args:=[vI (s:Int)]) (gU:=[.pointer (aD z1)]) VO (aec w d k ha hv z1 s (hl s hs)))
   rw[ai]at h9
   exact h9)
 refine TO.lc VP Eb ?_
 clear Eb
 rintro vr O' ⟨rfl,rfl⟩
 refine aR ?_
 refine aF (.bool ((l.map fun y:Nat=>(y:Int)).any fun x=>dR d x.toNat)) results148 F ?_
 exact⟨[],Sub.z,am Value.bool (by rw[List.any_map];rfl),F⟩
theorem TQ (w:World) [dQ prog w] (d:c_) (k:DK) (ha:At w d k) (hv:Valid d) (b:Option Addr) (c:Nat) (l:List Nat) (hS:Sl w b (cm l)) (hl: ∀s∈l,s<d.next.length) (hb:l.length≤1000000) (x:Nat) (hx:x<eE d):
  cB prog 144 [dV d k,.slice b l.length c,v8 x] w fun v N=> ∃b' c',v=.slice b' (gw d l x).length c'∧N=[az b' c' 3 1 (cm (gw d l x))]:=by
 refine aA func144 F ntmps144 F ?_
 have Qe:=ha.rows.1
 refine aQ (ax (ef ((dC d k)) (fun z1=>?_)))
 refine aS (bq (ay (cL da) (bH (aK (T.fJ 3 1 ?_)))))
 let eH:Lx.Item:=oI z1 25 (dC d k)
 refine ep (fun(i:Nat) ρ O=> ∃(rb:Option Addr) (rc:Nat),O=[az rb rc 3 1 (ints ((l.take i).map fun s=>((fm d s x:Nat):Int))),eH]∧i≤l.length∧dh [(0,(dV d k)),(1,(.slice b l.length c)),(2,v8 x),(3,(.pointer (aD z1))),(6,(.slice rb i rc)),(9,(.slice b l.length c)),(10,vI (l.length:Int)),(11,vN i)] ρ) (fun i=>l.length-i) 0 ?_ ?_
 ·exact⟨none,0,F,bj _,(.of F)⟩
 rintro i ρ O ⟨rb,rc,rfl,hi,hH⟩
 obtain⟨gv,rfl⟩:=hH.elim
 clear hH
 refine aG cV (dJ (aL F (fun hc=>?_) (fun hc=>?_)))
 ·have pJ:i<l.length:=by omega
  have rQ:l[i]<d.next.length:=hl _ (av pJ)
  obtain⟨v1,c1,g1,s1⟩:=ha.rows.get rQ
  have Nf:d.next[l[i]].length=eE d:=hv.len _ (av rQ)
  have Gi:x<d.next[l[i]].length:=by rw[Nf];exact hx
  refine aE (br (aK (aG (dB i da bM F F (a6 hS)) (ae (dD eO F F hS iT) (aj (a_ (ay (bu dm fx) (ae (bF 1 eY) (ay (dB (l[i]) eY eo F F (a6 ha.outer) rQ (Qe▸rQ)) (ae (dD da F F ha.outer g1) (ay (dB x da bM F F (a6 s1) Gi (by rw[ai];exact Gi)) (ae (dD eO F F s1 (ym hv rQ hx)) (ax (dL (v:=vN (fm d l[i] x)) da bM F F F (fun z2=>?_)))))))))))))))
  refine ax (dE 1 da da bM F F F F (by simp;omega) (by decide) (Src.row (j:=0) F (by simp)) (by simp[fS]) (by omega) (by decide) (by decide) (fun z3 pg=>?_))
  refine aj (a_ (ae (dj (b:=1) i F F (by omega)) (bH ?_)))
  exact⟨i+1,by omega,[az z3 pg 3 1 ((ints ((l.take i).map fun s=>((fm d s x:Nat):Int)))++[vN (fm d l[i] x)]),eH],(by exact Sub.d (.k (.k .z))),z3,pg,by rw[aC pJ,bm,show ints ((l.take i).map (fun s=>((fm d s x:Nat):Int))++[l[i]].map (fun s=>((fm d s x:Nat):Int)))=ints ((l.take i).map fun s=>((fm d s x:Nat):Int))++[vN (fm d l[i] x)]from bm],by omega,(.of F)⟩
 have If: ¬i<l.length:=by omega
 refine cD ?_
 refine br ?_
 have xF:i=l.length:=by omega
 subst xF
 rw[List.take_length]
 refine a_ (aN (TO.lc VQ (n8 [0] (by have h9:=Z0 w rb rc (l.map fun s=>((fm d s x:Nat):Int)) (by rw[ai];omega);rw[ai]at h9;exact h9)) ?_))
 rintro vr O' ⟨A1,rfl,rfl,rfl⟩
 refine bi (a7 ?_)
 have y_:=cx.under (A:=[az rb rc 3 1 (ints (rR (l.map fun s=>((fm d s x:Nat):Int))))]) (B:=[eH]) (O:=[az rb rc 3 1 (ints (rR (l.map fun s=>((fm d s x:Nat):Int)))),eH]) (show cx _ _ _ _ _ (fun v O'=>v=.slice rb (gw d l x).length rc∧O'=[az rb rc 3 1 (cm (gw d l x))])from by
   have h9:=Ng w rb rc (rR (l.map fun s=>((fm d s x:Nat):Int))) (by rw[List.length_mergeSort,ai];exact hb)
   rw[Kk hv.toVal hl hx,ai,gN,List.length_mergeSort,ai]at h9
   exact h9) (by exact Sub.rf)
 refine TO.lc VR y_ ?_
 clear y_
 rintro vr O' ⟨A1,rfl,rfl,rfl⟩
 refine aR ?_
 refine aF (.slice rb ((gw d l x).length) rc) results144 F ?_
 exact⟨[az rb rc 3 1 (cm (gw d l x))],(by exact Sub.k .z),rb,rc,F,F⟩
theorem TS (base:World) [dQ prog base] (n:Nat) (b:Option Addr) (c cv:Nat) (l:List Nat) (s:Nat) (ha:l.Pairwise (· < ·)) (hl: ∀s∈l,s<n) (hs:s<n) (hb:l.length≤1000000):
  cx prog base 149 [.slice b l.length cv,vN s] [az b c 3 1 (cm l)] (fun v O'=> ∃b' c' c2,v=.slice b' (Cr n l s).length c'∧O'=[az b' c2 3 1 (cm (Cr n l s))]):=by
 refine aA func149 F ntmps149 F ?_
 refine aQ (aj (a7 (aN (TO.lc VS (aO fun w1 hI=>(haveI:=eP hI;RI w1 b cv l s (hI.ij (mG 0)) ha hb)) ?_))))
 rintro vr O' ⟨N,rfl,rfl,rfl⟩
 refine ay (bI _) (ae (bI _) (aS (aS (bq (bH (aL F (fun hc=>?_) (fun hc=>?_)))))))
 ·refine br ?_
  refine a_ (aN (aR ?_))
  refine aF (.slice b l.length cv) results149 F ?_
  rw[RJ ha hl hc]
  exact⟨[az b c 3 1 (cm l)],(by exact Sub.rf),b,cv,c,F,F⟩
 refine aE (a7 ?_)
 refine TO.lc Nh (aO fun w1 hI=>(haveI:=eP hI;(show cB _ _ _ _ _ from by
   have h9:=Ni w1 b cv (l.map fun y:Nat=>(y:Int)) (by rw[gN];exact hI.ij (mG 0)) (by rw[ai];exact hb)
   rw[ai,gN]at h9
   exact h9))) ?_
 rintro vr O' ⟨N,rfl,nb,nc,rfl,rfl,hnc⟩
 refine de (ax (dL (v:=vN s) da bM F F F (fun z1=>?_)))
 have oh:=cx.under (A:=[az nb nc 3 1 (cm l),bJ z1 1 3 1 [vN s]]) (B:=[az b c 3 1 (cm l)]) (O:=[bJ z1 1 3 1 [vN s],az nb nc 3 1 (cm l),az b c 3 1 (cm l)]) (show cx _ _ _ _ _ (fun v O'=> ∃b' c',v=.slice b' (l.length+1) c'∧O'=[az b' c' 3 1 (cm (Cr n l s))])from by
   have h9:=RK base nb nc (l.countP (· <s)) z1 (l.map fun y:Nat=>(y:Int)) (s:Int) (by rw[ai];exact List.countP_le_length) (by rw[ai];exact hb) hnc
   rw[←List.map_take,←List.map_drop,ai,gN,show ints (List.map (fun y:Nat=>(y:Int)) (l.take (l.countP (· <s)))++(s:Int)::List.map (fun y:Nat=>(y:Int)) (l.drop (l.countP (· <s))))=cm (Cr n l s) by rw[←Ig ha hl hs hc,←gN,bm,cJ]]at h9
   exact h9) (by exact Sub.fz [bJ z1 1 3 1 [vN s]] _ (.k (.k .z)))
 refine TO.lc VT oh ?_
 clear oh
 rintro vr O' ⟨A1,rfl,ib,ic,rfl,rfl⟩
 refine aR ?_
 refine aF (.slice ib (l.length+1) ic) results149 F ?_
 have Lq:(Cr n l s).length=l.length+1:=by rw[←Ig ha hl hs hc];simp;have:=List.countP_le_length (p:=fun y=>decide (y<s)) (l:=l);omega
 exact⟨[az ib ic 3 1 (cm (Cr n l s))],(by exact Sub.k .z),ib,ic,ic,by rw[Lq],F⟩
theorem BU:HX prog 234 {name:= "s",type:=3,offset:=0,embedded:=false,tag:= "",pkgPath:= "sentinel/boolean",byteOffset:=0} {name:= "t",type:=3,offset:=1,embedded:=false,tag:= "",pkgPath:= "sentinel/boolean",byteOffset:=8}:=⟨pU,eO,eO,F,F,by decide,by decide,by kernel_rfl⟩
theorem Pu (w:World) [dQ prog w] (a b:c_) (j k:DK) (ha:At w a j) (hb:At w b k) (QF:a.next.length<9223372036854775807) (AQ: ∀r∈a.next,r.length<9223372036854775807) (AR:a.aT.length<9223372036854775807) (WO:b.next.length<9223372036854775807) (Pv: ∀r∈b.next,r.length<9223372036854775807) (Pw:b.aT.length<9223372036854775807) (he:iy a b≠0):
  cB prog 190 [dV a j,dV b k] w fun v N=>v=.tuple #[.pointer none,vI (iy a b:Int)]∧N=[]:=by
 refine aA func190 F ntmps190 F ?_
 refine aQ (ax (ef ((dC a j)) (fun om=>?_)))
 refine ax (ef ((dC b k)) (fun y9=>?_))
 refine aS (aS (bq (ae (eR 1 dm bY) (TO.lc xj (aO fun w1 hI=>(haveI:=eP hI;jP w1 a j.nb j.fb j.nc j.fc (dO j.qs) (hI.Dz ha) QF AQ AR)) ?_))))
 rintro vr O' ⟨N,rfl,rfl,rfl⟩
 refine aj (bo d_ (bi (aL F (fun hc=>?_) (fun hc=>?_))))
 ·have pJ:di a≠0:=by omega
  refine a7 (aS (aR ?_))
  refine dr (.pointer none) (vI (di a:Int)) results190 F F ?_
  exact⟨[],Sub.z,by rw[Dp (by omega)],F⟩
 have If: ¬di a≠0:=by omega
 refine aE (br (aG (eR 0 dm bY) (TO.lc xj (aO fun w1 hI=>(haveI:=eP hI;jP w1 b k.nb k.fb k.nc k.fc (dO k.qs) (hI.Dz hb) WO Pv Pw)) ?_)))
 rintro vr O' ⟨N,rfl,rfl,rfl⟩
 refine aj (bo d_ (bi (aL F (fun hc=>?_) (fun hc=>?_))))
 ·have abM:di b≠0:=by omega
  refine a7 (aS (aR ?_))
  refine dr (.pointer none) (vI (di b:Int)) results190 F F ?_
  exact⟨[],Sub.z,by rw[B2 (by omega) (by omega)],F⟩
 have abN: ¬di b≠0:=by omega
 refine aE (br (aG (bu dm bM) (ae (bF 1 eO) (ae (bu dm bM) (ae (bF 0 eO) (aX d_ (aL (p:= ¬a.vars=b.vars) (am Value.bool (decide_eq_decide.2 (by omega))) (fun hc=>?_) (fun hc=>?_))))))))
 ·refine br ?_
  refine a_ (aS (aR ?_))
  refine dr (.pointer none) (vI 7) results190 F F ?_
  exact⟨[],Sub.z,by rw[Gb (by omega) (by omega) hc];rfl,F⟩
 refine absurd (q_.2 ⟨eL.1 (by omega),eL.1 (by omega),Classical.not_not.1 hc⟩) he
theorem SI (w:World) [dQ prog w] (a b:c_) (j k:DK) (ha:At w a j) (hb:At w b k) (va:Valid a) (vb:Valid b) (hv:a.vars=b.vars):
  cB prog 190 [dV a j,dV b k] w fun v N=> ∃(bp qb m:Nat),v=.tuple #[.pointer (aD bp),vI 0]∧N=[oI bp 238 [(vI a.vars),(vI a.start),(.slice j.nb a.next.length j.nc),(.slice j.fb a.aT.length j.fc),(vI b.vars),(vI b.start),(.slice k.nb b.next.length k.nc),(.slice k.fb b.aT.length k.fc),(.slice (aD qb) ([a.start.toNat*b.next.length+b.start.toNat].length) 1),(.map (some m))],bJ qb 1 234 2 (pf b.next.length [a.start.toNat*b.next.length+b.start.toNat]),dZ fH (fun n:Nat=>Value.int .i64 (n:Int)) m (pmap b.next.length [a.start.toNat*b.next.length+b.start.toNat])]:=by
 refine aA func190 F ntmps190 F ?_
 have wa:di a=0:=eL.2 va
 have wb:di b=0:=eL.2 vb
 have Gf:a.start=((a.start.toNat:Nat):Int):=by have:=va.s0;omega
 have B8:b.start=((b.start.toNat:Nat):Int):=by have:=vb.s0;omega
 have Rb:=B1 (s:=a.start.toNat) (ez vb.toVal)
 refine aQ (ax (ef ((dC a j)) (fun om=>?_)))
 refine ax (ef ((dC b k)) (fun y9=>?_))
 refine aS (aS (bq (ae (eR 1 dm bY) (TO.lc xj (aO fun w1 hI=>(haveI:=eP hI;jP w1 a j.nb j.fb j.nc j.fc (dO j.qs) (hI.Dz ha) (by have:=va.n4;omega) va.wO (by have:=va.fin;have:=va.n4;omega))) ?_))))
 rintro vr O' ⟨N,rfl,rfl,rfl⟩
 rw[wa]
 refine aj (bo d_ (bi (bf (aE (br (aG (eR 0 dm bY) (TO.lc xj (aO fun w1 hI=>(haveI:=eP hI;jP w1 b k.nb k.fb k.nc k.fc (dO k.qs) (hI.Dz hb) (by have:=vb.n4;omega) vb.wO (by have:=vb.fin;have:=vb.n4;omega))) ?_)))))))
 rintro vr O' ⟨N,rfl,rfl,rfl⟩
 rw[wb]
 refine aj (bo d_ (bi (bf (aE (br (aG (bu dm bM) (ae (bF 1 eO) (ae (bu dm bM) (ae (bF 0 eO) (ae d_ ?_))))))))))
 refine bi (bf (aE (aG (bu dm bM) (ae (bF 1 eO) (ae (bu dm bM) (ae (bF 0 eO) (ae (dc [(vI a.start),(vI b.start)] IB jk (by kernel_rfl)) (ax (b_ jk (fun NO=>?_))))))))) (am Value.bool (a8 (fun h=>h hv))))
 refine ax (c8 [(vI a.start),(vI b.start)] 0 jk ?_)
 refine bi ?_
 let eH:Value:=(.slice j.fb a.aT.length j.fc)
 let gd:Value:=(.slice k.fb b.aT.length k.fc)
 let fR:Value:=(.slice j.nb a.next.length j.nc)
 let gn:Value:=(.slice k.nb b.next.length k.nc)
 refine fF (fun ρ O=> ∃(bp qb m:Nat),O=[oI bp 238 [(vI a.vars),(vI a.start),fR,eH,(vI b.vars),(vI b.start),gn,gd,(.slice (aD qb) 1 1),(.map (some m))],bJ qb 1 234 2 [(vI a.start),(vI b.start)],dZ fH (fun n:Nat=>Value.int .i64 (n:Int)) m [((a.start,b.start),(0:Nat))]]∧dh [(0,(dV a j)),(1,(dV b k)),(2,(.pointer (aD om))),(3,(.pointer (aD y9))),(4,(.pointer (aD bp))),(5,vI 0),(6,vN 0),(7,vN 0),(8,(.pointer (aD NO)))] ρ) ?_ ?_
 ·refine pq [oI NO 234 [(vI a.start),(vI b.start)],oI y9 25 (dC b k),oI om 25 (dC a j)] 12 mixed F (by exact Sub.rf) (fun _ _ _ _ h=>h) ?_
  refine cI 0 F (by kernel_rfl) (eR 2 dm bY) ?_
  refine cI 1 F (by kernel_rfl) (eR 1 dm bY) ?_
  refine cI 2 F (by kernel_rfl) (eR 0 pU jk) ?_
  refine cI 5 F (by kernel_rfl) (eR 0 pU jk) ?_
  refine cS [3,4] (by kernel_rfl) F ⟨⟨_,F,F,cP (m:=1) (parts:=[(0,_)]) (cs:=[(vI a.start),(vI b.start)]) oD jk (by decide) (by kernel_rfl) F (fun qb=>⟨by exact Sub.d (.k (.k (.k .z))),?_⟩)⟩,⟨_,F,F,mA fH (fun n:Nat=>Value.int .i64 (n:Int)) (fun m=>⟨by exact Sub.d (.k (.k (.k .z))),?_⟩)⟩,trivial⟩
  ·refine cS [4] (by kernel_rfl) F ⟨⟨_,F,F,mA fH (fun n:Nat=>Value.int .i64 (n:Int)) (fun m=>⟨by exact Sub.d (.d (.k (.k (.k .z)))),?_⟩)⟩,trivial⟩
   refine cS [6] (by kernel_rfl) F ⟨⟨_,F,F,gA (a:=(a.start,b.start)) (v:=(0:Nat)) 0 vA (kP BU) F F F F (by simp) ⟨by exact Sub.d (.d (.k (.k (.k .z)))),?_⟩⟩,trivial⟩
   refine cI 7 F (by kernel_rfl) aw ?_
   refine cI 8 F (by kernel_rfl) (dc [(vI a.vars),(vI a.start),fR,eH,(vI b.vars),(vI b.start),gn,gd,(.slice (aD qb) 1 1),(.map (some m))] CO Hd (by kernel_rfl)) ?_
   refine cS [9] (by kernel_rfl) F ⟨⟨_,F,F,ef [(vI a.vars),(vI a.start),fR,eH,(vI b.vars),(vI b.start),gn,gd,(.slice (aD qb) 1 1),(.map (some m))] (fun bp=>⟨by exact Sub.d (.d (.d (.k (.k (.k .z))))),?_⟩)⟩,trivial⟩
   refine cI 10 F (by kernel_rfl) cz ?_
   refine cI 11 F (by kernel_rfl) cz ?_
   exact im (by kernel_rfl) ⟨bp,qb,m,F,(.of F)⟩ (by exact Sub.k (.fz [dZ fH (fun n:Nat=>Value.int .i64 (n:Int)) m [((a.start,b.start),(0:Nat))]] _ (.k .z)))
  refine cS [3,6] (by kernel_rfl) F ⟨⟨_,F,F,cP (m:=1) (parts:=[(0,_)]) (cs:=[(vI a.start),(vI b.start)]) oD jk (by decide) (by kernel_rfl) F (fun qb=>⟨by exact Sub.d (.d (.k (.k (.k .z)))),?_⟩)⟩,⟨_,F,F,gA (a:=(a.start,b.start)) (v:=(0:Nat)) 0 vA (kP BU) F F F F (by simp) ⟨by exact Sub.d (.k (.k (.k .z))),?_⟩⟩,trivial⟩
  ·refine cS [6] (by kernel_rfl) F ⟨⟨_,F,F,gA (a:=(a.start,b.start)) (v:=(0:Nat)) 1 vA (kP BU) F F F F (by simp) ⟨by exact Sub.d (.d (.k (.k (.k .z)))),?_⟩⟩,trivial⟩
   refine cI 7 F (by kernel_rfl) aw ?_
   refine cI 8 F (by kernel_rfl) (dc [(vI a.vars),(vI a.start),fR,eH,(vI b.vars),(vI b.start),gn,gd,(.slice (aD qb) 1 1),(.map (some m))] CO Hd (by kernel_rfl)) ?_
   refine cS [9] (by kernel_rfl) F ⟨⟨_,F,F,ef [(vI a.vars),(vI a.start),fR,eH,(vI b.vars),(vI b.start),gn,gd,(.slice (aD qb) 1 1),(.map (some m))] (fun bp=>⟨by exact Sub.d (.d (.d (.k (.k (.k .z))))),?_⟩)⟩,trivial⟩
   refine cI 10 F (by kernel_rfl) cz ?_
   refine cI 11 F (by kernel_rfl) cz ?_
   exact im (by kernel_rfl) ⟨bp,qb,m,F,(.of F)⟩ (by exact Sub.k (.k (.k .z)))
  refine cI 7 F (by kernel_rfl) aw ?_
  refine cS [3] (by kernel_rfl) F ⟨⟨_,F,F,cP (m:=1) (parts:=[(0,_)]) (cs:=[(vI a.start),(vI b.start)]) oD jk (by decide) (by kernel_rfl) F (fun qb=>⟨by exact Sub.d (.d (.k (.k (.k .z)))),?_⟩)⟩,trivial⟩
  refine cI 8 F (by kernel_rfl) (dc [(vI a.vars),(vI a.start),fR,eH,(vI b.vars),(vI b.start),gn,gd,(.slice (aD qb) 1 1),(.map (some m))] CO Hd (by kernel_rfl)) ?_
  refine cS [9] (by kernel_rfl) F ⟨⟨_,F,F,ef [(vI a.vars),(vI a.start),fR,eH,(vI b.vars),(vI b.start),gn,gd,(.slice (aD qb) 1 1),(.map (some m))] (fun bp=>⟨by exact Sub.d (.d (.d (.k (.k (.k .z))))),?_⟩)⟩,trivial⟩
  refine cI 10 F (by kernel_rfl) cz ?_
  refine cI 11 F (by kernel_rfl) cz ?_
  exact im (by kernel_rfl) ⟨bp,qb,m,F,(.of F)⟩ (by exact Sub.k (.k (.k .z)))
 rintro ρ O ⟨bp,qb,m,rfl,hH⟩
 obtain⟨gv,rfl⟩:=hH.elim
 clear hH
 refine cM (dS ?_)
 refine dr (.pointer (aD bp)) (vI 0) results190 F F ?_
 have e1:pf b.next.length [a.start.toNat*b.next.length+b.start.toNat]=[vI a.start,vI b.start]:=by
  simp only[pf,List.flatMap_cons,List.flatMap_nil,dp,Te,Rb.1,Rb.2,←Gf,←B8]
 have e2:pmap b.next.length [a.start.toNat*b.next.length+b.start.toNat]=[((a.start,b.start),0)]:=by
  show[(un _ _,0)]=_
  simp only[un,Rb.1,Rb.2,←Gf,←B8]
 exact⟨[oI bp 238 [(vI a.vars),(vI a.start),fR,eH,(vI b.vars),(vI b.start),gn,gd,(.slice (aD qb) 1 1),(.map (some m))],bJ qb 1 234 2 [(vI a.start),(vI b.start)],dZ fH (fun n:Nat=>Value.int .i64 (n:Int)) m [((a.start,b.start),(0:Nat))]],(by exact Sub.rf),bp,qb,m,F,by rw[e1,e2];rfl⟩
theorem XB (w:World) [dQ prog w] (bp:Nat):cB prog 191 [.pointer (aD bp)] w fun v N=> ∃b,v=.func (.func 218) #[] #[.pointer (aD b)]∧N=[oI b 227 [(.pointer (aD bp))]]:=by
 refine aA func191 F ntmps191 F ?_
 refine aQ (ax (ef [(.pointer (aD bp))] (fun om=>?_)))
 refine aj (aG (fI) (aj (cM ?_)))
 refine aF (.func (.func 218) #[] #[(.pointer (aD om))]) results191 F ?_
 exact⟨om,F,F⟩
theorem abO (base:World) [dQ prog base] (a b:c_) (j k:DK) (bp m:Nat) (ks:List Nat) (c:Nat) (qb:Option Addr) (qc:Nat) (hk:c∈ks) (hl:ks.length≤17000000):
  cx prog base 219 [.pointer (aD bp),(.agg #[vN (c/b.next.length),vN (c%b.next.length)])] [oI bp 238 [(vI a.vars),(vI a.start),(.slice j.nb a.next.length j.nc),(.slice j.fb a.aT.length j.fc),(vI b.vars),(vI b.start),(.slice k.nb b.next.length k.nc),(.slice k.fb b.aT.length k.fc),(.slice qb ks.length qc),(.map (some m))],az qb qc 234 2 (pf b.next.length ks),dZ fH (fun n:Nat=>Value.int .i64 (n:Int)) m (pmap b.next.length ks)] (fun v O'=>v=vN (ix c (add ks c))∧ ∃Px Py,O'=[oI bp 238 [(vI a.vars),(vI a.start),(.slice j.nb a.next.length j.nc),(.slice j.fb a.aT.length j.fc),(vI b.vars),(vI b.start),(.slice k.nb b.next.length k.nc),(.slice k.fb b.aT.length k.fc),(.slice Px ((add ks c).length) Py),(.map (some m))],az Px Py 234 2 (pf b.next.length (add ks c)),dZ fH (fun n:Nat=>Value.int .i64 (n:Int)) m (pmap b.next.length (add ks c))]):=by
 refine aA func219 F ntmps219 F ?_
 refine aQ (ax (ef [vN (c/b.next.length),vN (c%b.next.length)] (fun om=>?_)))
 refine aj (br ?_)
 let kp:Lx.Item:=oI bp 238 [(vI a.vars),(vI a.start),(.slice j.nb a.next.length j.nc),(.slice j.fb a.aT.length j.fc),(vI b.vars),(vI b.start),(.slice k.nb b.next.length k.nc),(.slice k.fb b.aT.length k.fc),(.slice qb ks.length qc),(.map (some m))]
 refine T.ds [oI om 234 [vN (c/b.next.length),vN (c%b.next.length)],kp,az qb qc 234 2 (pf b.next.length ks),dZ fH (fun n:Nat=>Value.int .i64 (n:Int)) m (pmap b.next.length ks)] [(0,0),(1,0),(2,0),(3,0),(4,0),(5,0),(6,0),(7,0),(8,0),(9,0),(10,0)] (by exact Sub.rf) ?_
 refine ap F aw (ap F bg (ap F (bu qR CN) (ap F (bF 1 vA) (ap F (eR 0 pU jk) (ap F (cg (kF (a:=un b.next.length c) vA bM (kP BU) F F (mG 3)) (v':=(.tuple #[vN (ix c ks),.bool true])) (by rw[l8];simp only[Gc,hk,if_true,if_false,LW,Nat.zero_add];rfl)) (ap F aw (ap F (bI _) (ap F (bI _) (ap F cz (ap F cz ?_))))))))))
 refine cy ?_
 refine br (bo g_ (bi (bf (aE (a7 (aR ?_))))))
 refine aF (vN (ix c ks)) results219 F ?_
 have ha:add ks c=ks:=aB hk
 rw[ha]
 exact⟨[kp,az qb qc 234 2 (pf b.next.length ks),dZ fH (fun n:Nat=>Value.int .i64 (n:Int)) m (pmap b.next.length ks)],(by exact Sub.d (.k (.k (.k .z)))),F,qb,qc,F⟩
theorem abP (base:World) [dQ prog base] (a b:c_) (j k:DK) (bp m:Nat) (ks:List Nat) (c:Nat) (qb:Option Addr) (qc:Nat) (hk:c∉ks) (hl:ks.length≤17000000):
  cx prog base 219 [.pointer (aD bp),(.agg #[vN (c/b.next.length),vN (c%b.next.length)])] [oI bp 238 [(vI a.vars),(vI a.start),(.slice j.nb a.next.length j.nc),(.slice j.fb a.aT.length j.fc),(vI b.vars),(vI b.start),(.slice k.nb b.next.length k.nc),(.slice k.fb b.aT.length k.fc),(.slice qb ks.length qc),(.map (some m))],az qb qc 234 2 (pf b.next.length ks),dZ fH (fun n:Nat=>Value.int .i64 (n:Int)) m (pmap b.next.length ks)] (fun v O'=>v=vN (ix c (add ks c))∧ ∃Px Py,O'=[oI bp 238 [(vI a.vars),(vI a.start),(.slice j.nb a.next.length j.nc),(.slice j.fb a.aT.length j.fc),(vI b.vars),(vI b.start),(.slice k.nb b.next.length k.nc),(.slice k.fb b.aT.length k.fc),(.slice Px ((add ks c).length) Py),(.map (some m))],az Px Py 234 2 (pf b.next.length (add ks c)),dZ fH (fun n:Nat=>Value.int .i64 (n:Int)) m (pmap b.next.length (add ks c))]):=by
 refine aA func219 F ntmps219 F ?_
 refine aQ (ax (ef [vN (c/b.next.length),vN (c%b.next.length)] (fun om=>?_)))
 refine aj (br ?_)
 refine T.ds [oI om 234 [vN (c/b.next.length),vN (c%b.next.length)],oI bp 238 [(vI a.vars),(vI a.start),(.slice j.nb a.next.length j.nc),(.slice j.fb a.aT.length j.fc),(vI b.vars),(vI b.start),(.slice k.nb b.next.length k.nc),(.slice k.fb b.aT.length k.fc),(.slice qb ks.length qc),(.map (some m))],az qb qc 234 2 (pf b.next.length ks),dZ fH (fun n:Nat=>Value.int .i64 (n:Int)) m (pmap b.next.length ks)] [(0,0),(1,0),(2,0),(3,0),(4,0),(5,0),(6,0),(7,0),(8,0),(9,0),(10,0)] (by exact Sub.rf) ?_
 refine ap F aw (ap F bg (ap F (bu qR CN) (ap F (bF 1 vA) (ap F (eR 0 pU jk) (ap F (cg (kF (a:=un b.next.length c) vA bM (kP BU) F F (mG 3)) (v':=(.tuple #[vI 0,.bool false])) (by rw[l8];simp only[Gc,hk,if_true,if_false,LW,Nat.zero_add];rfl)) (ap F aw (ap F (bI _) (ap F (bI _) (ap F cz (ap F cz ?_))))))))))
 refine cy ?_
 refine br (bo g_ (bi ?_))
 refine bW ?_
 refine bo bg (ae (bu qR sg) (ae (bF 1 oD) (ae (cL oD) (aj (br ?_)))))
 refine T.ds [oI om 234 [vN (c/b.next.length),vN (c%b.next.length)],oI bp 238 [(vI a.vars),(vI a.start),(.slice j.nb a.next.length j.nc),(.slice j.fb a.aT.length j.fc),(vI b.vars),(vI b.start),(.slice k.nb b.next.length k.nc),(.slice k.fb b.aT.length k.fc),(.slice qb ks.length qc),(.map (some m))],az qb qc 234 2 (pf b.next.length ks),dZ fH (fun n:Nat=>Value.int .i64 (n:Int)) m (pmap b.next.length ks)] [(0,0),(1,0),(2,0),(3,0),(4,0),(5,0),(6,2)] (by exact Sub.rf) ?_
 refine ap F aw (ap F bg (ap F (bu qR CN) (ap F (bF 1 vA) (ap F (eR 0 pU jk) (ap F aw ?_)))))
 refine cA F F (rz (a:=un b.next.length c) (v:=ks.length) 3 vA (kP BU) F F F F (by rw[LX,Gc];exact hk) ?_)
 refine cy ?_
 refine T.ds [oI om 234 [vN (c/b.next.length),vN (c%b.next.length)],oI bp 238 [(vI a.vars),(vI a.start),(.slice j.nb a.next.length j.nc),(.slice j.fb a.aT.length j.fc),(vI b.vars),(vI b.start),(.slice k.nb b.next.length k.nc),(.slice k.fb b.aT.length k.fc),(.slice qb ks.length qc),(.map (some m))],dZ fH (fun n:Nat=>Value.int .i64 (n:Int)) m ((pmap b.next.length ks)++[(un b.next.length c,ks.length)])] [(0,0),(1,0),(2,0),(3,0),(4,0),(5,0),(6,1),(7,1),(8,0),(9,0),(10,2)] (by exact Sub.k (.k (.d (.k .z)))) ?_
 refine ap F aw (ap F aw (ap F bg (ap F (bu qR sg) (ap F (bF 1 oD) (ap F (eR 0 pU jk) ?_)))))
 refine cG F F (cP (m:=1) (parts:=[(0,_)]) (cs:=[vN (c/b.next.length),vN (c%b.next.length)]) oD jk (by decide) (by kernel_rfl) F (fun y9=>⟨by exact Sub.d (.k (.k (.d (.k .z)))),?_⟩))
 refine cG F F (dE 3 oD oD jk F F F F (by rw[B3]) (by decide) (Src.row (j:=0) F (by simp)) (by simp[fS]) (by omega) (by decide) (by decide) (fun NO c4=>⟨by exact Sub.d (.k (.k (.d (.k .z)))),?_⟩))
 refine ap F bg (ap F (bu qR sg) ?_)
 refine cA F F (c8 [(.slice NO (ks.length+1) c4)] 2 sg ?_)
 refine cy ?_
 refine a7 (aR ?_)
 refine aF (vI (ks.length:Int)) results219 F ?_
 have ha:add ks c=ks++[c]:=aq hk
 rw[ha]
 exact⟨[oI bp 238 [(vI a.vars),(vI a.start),(.slice j.nb a.next.length j.nc),(.slice j.fb a.aT.length j.fc),(vI b.vars),(vI b.start),(.slice k.nb b.next.length k.nc),(.slice k.fb b.aT.length k.fc),(.slice NO (ks.length+1) c4),(.map (some m))],az NO c4 234 2 ((pf b.next.length ks)++[vN (c/b.next.length),vN (c%b.next.length)]),dZ fH (fun n:Nat=>Value.int .i64 (n:Int)) m ((pmap b.next.length ks)++[(un b.next.length c,ks.length)])],(by exact Sub.d (.d (.k (.k (.k .z))))),by rw[gr hk];simp[ix],_,_,by rw[LV,JH,aJ];rfl⟩
theorem pvC (base:World) [dQ prog base] (a b:c_) (j k:DK) (bp m:Nat) (ks:List Nat) (c:Nat) (qb:Option Addr) (qc:Nat) (hl:ks.length≤17000000):
  cx prog base 219 [.pointer (aD bp),(.agg #[vN (c/b.next.length),vN (c%b.next.length)])] [eu bp (.cells (List.toArray [(vI a.vars),(vI a.start),(.slice j.nb a.next.length j.nc),(.slice j.fb a.aT.length j.fc),(vI b.vars),(vI b.start),(.slice k.nb b.next.length k.nc),(.slice k.fb b.aT.length k.fc),(.slice qb ks.length qc),(.map (some m))]) 238 (0,0)),az qb qc 234 2 (pf b.next.length ks),dZ fH (fun n:Nat=>Value.int .i64 (n:Int)) m (pmap b.next.length ks)] (fun v O'=>v=vN (ix c (add ks c))∧ ∃Px Py,O'=[eu bp (.cells (List.toArray [(vI a.vars),(vI a.start),(.slice j.nb a.next.length j.nc),(.slice j.fb a.aT.length j.fc),(vI b.vars),(vI b.start),(.slice k.nb b.next.length k.nc),(.slice k.fb b.aT.length k.fc),(.slice Px ((add ks c).length) Py),(.map (some m))]) 238 (0,0)),az Px Py 234 2 (pf b.next.length (add ks c)),dZ fH (fun n:Nat=>Value.int .i64 (n:Int)) m (pmap b.next.length (add ks c))]):=by
 by_cases hk:c∈ks
 ·exact abO base a b j k bp m ks c qb qc hk hl
 ·exact abP base a b j k bp m ks c qb qc hk hl
theorem pvS (base:World) [dQ prog base] (f:Bool→Bool→Bool) (a b:c_) (j k:DK) (bp m i o x:Nat) (qb:Option Addr) (qc:Nat) (va:Valid a) (vb:Valid b) (hv:a.vars=b.vars) (hq:(dY (cq f a b) i)[i]? =some o) (hx:x<2^a.vars.toNat):
  cx prog base 219 [.pointer (aD bp),(.agg #[vN ((fm (cq f a b) o x)/b.next.length),vN ((fm (cq f a b) o x)%b.next.length)])] [eu bp (.cells (List.toArray [(vI a.vars),(vI a.start),(.slice j.nb a.next.length j.nc),(.slice j.fb a.aT.length j.fc),(vI b.vars),(vI b.start),(.slice k.nb b.next.length k.nc),(.slice k.fb b.aT.length k.fc),(.slice qb ((lU (cq f a b) i o x).length) qc),(.map (some m))]) 238 (0,0)),az qb qc 234 2 (pf b.next.length (lU (cq f a b) i o x)),dZ fH (fun n:Nat=>Value.int .i64 (n:Int)) m (pmap b.next.length (lU (cq f a b) i o x))] (fun v O'=>v=vN (ix (fm (cq f a b) o x) (order (cq f a b)))∧ ∃Px Py,O'=[eu bp (.cells (List.toArray [(vI a.vars),(vI a.start),(.slice j.nb a.next.length j.nc),(.slice j.fb a.aT.length j.fc),(vI b.vars),(vI b.start),(.slice k.nb b.next.length k.nc),(.slice k.fb b.aT.length k.fc),(.slice Px ((lU (cq f a b) i o (x+1)).length) Py),(.map (some m))]) 238 (0,0)),az Px Py 234 2 (pf b.next.length (lU (cq f a b) i o (x+1))),dZ fH (fun n:Nat=>Value.int .i64 (n:Int)) m (pmap b.next.length (lU (cq f a b) i o (x+1)))]):=by
 have ho:=(mx (f:=f) va vb hv i).2 o (bT hq)
 have hil:=(List.getElem?_eq_some_iff.1 hq).1
 have R6:=nW (f:=f) va vb hv i
 have hml:=Dm (f:=f) va vb hv (i:=i) ho (Nat.le_of_lt hx)
 have h4:a.next.length*b.next.length≤4096*4096:=Nat.mul_le_mul va.n4 vb.n4
 rw[wG]
 refine(pvC base a b j k bp m (lU (cq f a b) i o x) (fm (cq f a b) o x) qb qc (by omega)).mono ?_
 rintro v O' ⟨rfl,h⟩
 refine⟨?_,h⟩
 rw[←wG,JG hq (x:=x+1) hx (by rw[kx];omega) (by rw[wG];exact sV.2 (.inr F))]
theorem XC (base:World) [dQ prog base] (f:Bool→Bool→Bool) (a b:c_) (j k:DK) (ha:At base a j) (hb:At base b k) (va:Valid a) (vb:Valid b) (hv:a.vars=b.vars) (L:Nat) (hL:2^a.vars.toNat=L) (bx bp m:Nat) (qb0:Option Addr) (qc0:Nat) (yv:Value) (J:Nat→List Lx.Item→Prop) (Q:List Lx.Item→Prop)
  (hy: ∀(i o:Nat) (qb:Option Addr) (qc rb:Nat) (O:List Lx.Item),(dY (cq f a b) i)[i]? =some o→J i O→fh prog base yv [(.agg #[vN (o/b.next.length),vN (o%b.next.length)]),.slice (aD rb) L L] (O++[oI bp 238 [(vI a.vars),(vI a.start),(.slice j.nb a.next.length j.nc),(.slice j.fb a.aT.length j.fc),(vI b.vars),(vI b.start),(.slice k.nb b.next.length k.nc),(.slice k.fb b.aT.length k.fc),(.slice qb ((dY (cq f a b) (i+1)).length) qc),(.map (some m))],az qb qc 234 2 (pf b.next.length (dY (cq f a b) (i+1))),dZ fH (fun n:Nat=>Value.int .i64 (n:Int)) m (pmap b.next.length (dY (cq f a b) (i+1))),bJ rb L 3 1 (ints (FQ (cq f a b) o))])
   (fun v O'=>(v=.bool true∧ ∃O2,O'=O2++[oI bp 238 [(vI a.vars),(vI a.start),(.slice j.nb a.next.length j.nc),(.slice j.fb a.aT.length j.fc),(vI b.vars),(vI b.start),(.slice k.nb b.next.length k.nc),(.slice k.fb b.aT.length k.fc),(.slice qb ((dY (cq f a b) (i+1)).length) qc),(.map (some m))],az qb qc 234 2 (pf b.next.length (dY (cq f a b) (i+1))),dZ fH (fun n:Nat=>Value.int .i64 (n:Int)) m (pmap b.next.length (dY (cq f a b) (i+1)))]∧J (i+1) O2)∨(v=.bool false∧Q O')))
  (O:List Lx.Item) (h0:J 0 O):
  cx prog base 218 [yv,.pointer (aD bx)] ([oI bx 227 [(.pointer (aD bp))],oI bp 238 [(vI a.vars),(vI a.start),(.slice j.nb a.next.length j.nc),(.slice j.fb a.aT.length j.fc),(vI b.vars),(vI b.start),(.slice k.nb b.next.length k.nc),(.slice k.fb b.aT.length k.fc),(.slice qb0 ((dY (cq f a b) 0).length) qc0),(.map (some m))],az qb0 qc0 234 2 (pf b.next.length (dY (cq f a b) 0)),dZ fH (fun n:Nat=>Value.int .i64 (n:Int)) m (pmap b.next.length (dY (cq f a b) 0))]++O) (fun _ O'=>(∃N qb qc O2,O'=O2++[oI bp 238 [(vI a.vars),(vI a.start),(.slice j.nb a.next.length j.nc),(.slice j.fb a.aT.length j.fc),(vI b.vars),(vI b.start),(.slice k.nb b.next.length k.nc),(.slice k.fb b.aT.length k.fc),(.slice qb ((dY (cq f a b) N).length) qc),(.map (some m))],az qb qc 234 2 (pf b.next.length (dY (cq f a b) N)),dZ fH (fun n:Nat=>Value.int .i64 (n:Int)) m (pmap b.next.length (dY (cq f a b) N))]∧(dY (cq f a b) N).length=N∧J N O2)∨Q O'):=by
 refine aA func218 F ntmps218 F ?_
 have h4:a.next.length*b.next.length≤4096*4096:=Nat.mul_le_mul va.n4 vb.n4
 have hw:L≤64:=by rw[←hL];exact va.width
 have Qm:=ha.rows.1
 have JX:=hb.rows.1
 refine aQ (aj (aK ?_))
 refine dU (fun(i:Nat) ρ O=> ∃(qb:Option Addr) (qc:Nat) (O1:List Lx.Item),O=([oI bx 227 [(.pointer (aD bp))],oI bp 238 [(vI a.vars),(vI a.start),(.slice j.nb a.next.length j.nc),(.slice j.fb a.aT.length j.fc),(vI b.vars),(vI b.start),(.slice k.nb b.next.length k.nc),(.slice k.fb b.aT.length k.fc),(.slice qb ((dY (cq f a b) i).length) qc),(.map (some m))],az qb qc 234 2 (pf b.next.length (dY (cq f a b) i)),dZ fH (fun n:Nat=>Value.int .i64 (n:Int)) m (pmap b.next.length (dY (cq f a b) i))]++O1)∧i≤(dY (cq f a b) i).length∧J i O1∧dh [(0,yv),(1,(.pointer (aD bx))),(3,vN i)] ρ) (fun i=>a.next.length*b.next.length-i) 0 ?_ ?_
 ·exact⟨qb0,qc0,O,F,bj _,h0,⟨F,F,F,trivial⟩⟩
 rintro i ρ O ⟨qb,qc,O1,rfl,HR,hJ,hH⟩
 obtain⟨gv,rfl⟩:=hH.elim
 clear hH
 have R6:=nW (f:=f) va vb hv i
 refine br (bo (bF 0 xu) (ae bg (ae (bu qR sg) (ae (bF 1 oD) (ae (cL oD) (aX cV (aL F (fun hc=>?_) (fun hc=>?_))))))))
 ·have mr:i<(dY (cq f a b) i).length:=by omega
  obtain⟨o,hq⟩: ∃o,(dY (cq f a b) i)[i]? =some o:=⟨_,ak mr⟩
  have ho:=(mx (f:=f) va vb hv i).2 o (bT hq)
  obtain⟨hs,ht⟩:=q5 ho
  obtain⟨v1,c1,g1,s1⟩:=ha.rows.get hs
  obtain⟨v2,c2,g2,s2⟩:=hb.rows.get ht
  refine aE (br (aK (aG (bF 0 xu) (ae bg (ae (bu qR sg) (ae (bF 1 oD) (ay (eF (i:=i) oD jk F F (eA 2) mr (by rw[B3];omega)) (ae (fy [vN (o/b.next.length),vN (o%b.next.length)] pU F jk F F (bK _) (eA 2) (HJ hq)) (ax (b_ jk (fun z1=>?_)))))))))))
  refine ax (c8 [vN (o/b.next.length),vN (o%b.next.length)] 0 jk ?_)
  refine bi (aG (bF 1 xu) (ae bg (ae (bu qR bY) (ae (bu dm bM) (ae (bF 2 eO) (ae (cg (o8 (v:=a.vars.toNat) F (by show Value.int _ a.vars=_;rw[cW va.v0]) (by have:=va.v6;omega)) (v':=vN L) (by rw[hL])) (ax (fg L da bM F F (by omega) (by omega) (fun z2=>?_)))))))))
  refine aS (bq (ay (cL da) (bH (aK ?_))))
  refine dq (O':=([oI bp 238 [(vI a.vars),(vI a.start),(.slice j.nb a.next.length j.nc),(.slice j.fb a.aT.length j.fc),(vI b.vars),(vI b.start),(.slice k.nb b.next.length k.nc),(.slice k.fb b.aT.length k.fc),(.slice qb ((dY (cq f a b) i).length) qc),(.map (some m))],az qb qc 234 2 (pf b.next.length (dY (cq f a b) i)),dZ fH (fun n:Nat=>Value.int .i64 (n:Int)) m (pmap b.next.length (dY (cq f a b) i)),bJ z2 L 3 1 (List.replicate L (vI 0)),oI z1 234 [vN (o/b.next.length),vN (o%b.next.length)],oI bx 227 [(.pointer (aD bp))]]++O1)) (by exact Sub.fz [bJ z2 L 3 1 (List.replicate L (vI 0)),oI z1 234 [vN (o/b.next.length),vN (o%b.next.length)],oI bx 227 [(.pointer (aD bp))]] _ (.fz [bJ z2 L 3 1 (List.replicate L (vI 0)),oI z1 234 [vN (o/b.next.length),vN (o%b.next.length)],oI bx 227 [(.pointer (aD bp))]] _ (.fz [bJ z2 L 3 1 (List.replicate L (vI 0)),oI z1 234 [vN (o/b.next.length),vN (o%b.next.length)],oI bx 227 [(.pointer (aD bp))]] _ (.k (.k (.k .rf)))))) ?_
  refine dU (fun(x:Nat) ρ O=> ∃(Hr:Option Addr) (Hs:Nat) (ys:List Nat),O=([oI bp 238 [(vI a.vars),(vI a.start),(.slice j.nb a.next.length j.nc),(.slice j.fb a.aT.length j.fc),(vI b.vars),(vI b.start),(.slice k.nb b.next.length k.nc),(.slice k.fb b.aT.length k.fc),(.slice Hr ((lU (cq f a b) i o x).length) Hs),(.map (some m))],az Hr Hs 234 2 (pf b.next.length (lU (cq f a b) i o x)),dZ fH (fun n:Nat=>Value.int .i64 (n:Int)) m (pmap b.next.length (lU (cq f a b) i o x)),bJ z2 L 3 1 (cm ys),oI z1 234 [vN (o/b.next.length),vN (o%b.next.length)],oI bx 227 [(.pointer (aD bp))]]++O1)∧x≤L∧ys.length=L∧(∀y,y<x→ys[y]? =some (ix (fm (cq f a b) o y) (order (cq f a b))))∧dh [(0,yv),(1,(.pointer (aD bx))),(3,vN i),(4,(.pointer (aD z1))),(5,(.slice (aD z2) L L)),(31,vI (L:Int)),(32,vN x)] ρ) (fun x=>L-x) 0 ?_ ?_
  ·refine⟨qb,qc,List.replicate L 0,?_,bj _,by simp,fun y hy9=>absurd hy9 (by omega),(.of F)⟩
   rw[show List.replicate L (Value.int .i64 0)=cm (List.replicate L 0) by simp];rfl
  rintro x ρ O ⟨Hr,Hs,ys,rfl,hx,Ee,AH,hH⟩
  obtain⟨gv,rfl⟩:=hH.elim
  clear hH
  refine aG cV (dJ (aL F (fun hc=>?_) (fun hc=>?_)))
  ·have yt:x<L:=by omega
   have UA:x<2^a.vars.toNat:=by omega
   have Yq:x<2^b.vars.toNat:=by rw[←hv];exact UA
   obtain⟨t1,_,x1,d1⟩:=va.iw hs UA
   obtain⟨t2,_,x2,d2⟩:=vb.iw ht Yq
   have Az:=(vL (f:=f) va vb hv ho UA).1
   have hdm:=B1 (n:=b.next.length) (s:=fm a (o/b.next.length) x) t2
   rw[←Az]at hdm
   have R7:(ints a.next[o/b.next.length])[x]? =some (vN (fm (cq f a b) o x/b.next.length)):=by rw[gL x1,d1,hdm.1]
   have Ri:(ints b.next[o%b.next.length])[x]? =some (vN (fm (cq f a b) o x%b.next.length)):=by rw[gL x2,d2,hdm.2]
   refine aE (br (aK (a7 (aj ?_))))
   refine tN [] [oI bp 238 [(vI a.vars),(vI a.start),(.slice j.nb a.next.length j.nc),(.slice j.fb a.aT.length j.fc),(vI b.vars),(vI b.start),(.slice k.nb b.next.length k.nc),(.slice k.fb b.aT.length k.fc),(.slice Hr ((lU (cq f a b) i o x).length) Hs),(.map (some m))],oI z1 234 [vN (o/b.next.length),vN (o%b.next.length)],oI bx 227 [(.pointer (aD bp))]] [(0,0),(1,0),(2,3),(3,3),(4,3),(5,3),(6,3),(7,3),(8,3),(9,3),(10,3),(11,3),(12,3),(13,3),(14,3),(15,3),(16,3),(17,3),(18,3),(19,3),(20,3),(21,3),(22,3),(23,3),(24,3),(25,3),(26,3),(27,3),(28,4),(29,2),(30,2)] mixed (yP (by kernel_rfl)) (cd (bV _)) (by exact Sub.k (.d (.d (.d (.k (.k .z)))))) (fun _ _ _ _ h=>h) ?_
   refine ap F aw (ap F aw ?_)
   refine eg F (bF 2 xu) ?_
   refine eg F (bF 2 xu) ?_
   refine eg F bg ?_
   refine eg F (bu qR bY) ?_
   refine eg F (bu dm fx) ?_
   refine eg F (bF 0 eY) ?_
   refine eg F (bu pU bM) ?_
   refine eg F (bF 1 eO) ?_
   refine eg F (dB ((o/b.next.length)) eY eo F F (a6 ha.outer) hs (by rw[Qm];exact hs)) ?_
   refine eg F (dD da F F ha.outer g1) ?_
   refine eg F aw ?_
   refine eg F (dB x da bM F F (a6 s1) x1 (by rw[ai];exact x1)) ?_
   refine eg F (dD eO F F s1 R7) ?_
   refine eg F (bF 2 xu) ?_
   refine eg F bg ?_
   refine eg F (bu qR bY) ?_
   refine eg F (bu dm fx) ?_
   refine eg F (bF 0 eY) ?_
   refine eg F (bu pU bM) ?_
   refine eg F (bF 1 eO) ?_
   refine eg F (dB ((o%b.next.length)) eY eo F F (a6 hb.outer) ht (by rw[JX];exact ht)) ?_
   refine eg F (dD da F F hb.outer g2) ?_
   refine eg F aw ?_
   refine eg F (dB x da bM F F (a6 s2) x2 (by rw[ai];exact x2)) ?_
   refine eg F (dD eO F F s2 Ri) ?_
   refine eg F (dc [vN ((fm (cq f a b) o x)/b.next.length),vN ((fm (cq f a b) o x)%b.next.length)] IB jk (by kernel_rfl)) ?_
   have NW:=cx.under (B:=([bJ z2 L 3 1 (cm ys),oI z1 234 [vN (o/b.next.length),vN (o%b.next.length)],oI bx 227 [(.pointer (aD bp))]]++O1)) (O:=([oI bp 238 [(vI a.vars),(vI a.start),(.slice j.nb a.next.length j.nc),(.slice j.fb a.aT.length j.fc),(vI b.vars),(vI b.start),(.slice k.nb b.next.length k.nc),(.slice k.fb b.aT.length k.fc),(.slice Hr ((lU (cq f a b) i o x).length) Hs),(.map (some m))],az Hr Hs 234 2 (pf b.next.length (lU (cq f a b) i o x)),dZ fH (fun n:Nat=>Value.int .i64 (n:Int)) m (pmap b.next.length (lU (cq f a b) i o x)),bJ z2 L 3 1 (cm ys),oI z1 234 [vN (o/b.next.length),vN (o%b.next.length)],oI bx 227 [(.pointer (aD bp))]]++O1)) (pvS base f a b j k bp m i o x Hr Hs va vb hv hq (by omega)) (by exact Sub.rf)
   refine yD F F (eh Xj NW ?_)
   clear NW
   rintro vr O' ⟨A1,rfl,rfl,qb2,qc2,rfl⟩
   refine⟨by exact Sub.z,?_⟩
   refine cA F F (eV F F (dB x da bM F F (eA 3)) ?_)
   refine cA F F (n7 (v:=vN (ix (fm (cq f a b) o x) (order (cq f a b)))) (vs:=[(vN (ix (fm (cq f a b) o x) (order (cq f a b))))]) (cs:=cm ys) x 3 bM F F F F F (by simp) F (by first|(simp;omega)|(simp_all;omega)) ?_)
   refine fj (O':=([oI bp 238 [(vI a.vars),(vI a.start),(.slice j.nb a.next.length j.nc),(.slice j.fb a.aT.length j.fc),(vI b.vars),(vI b.start),(.slice k.nb b.next.length k.nc),(.slice k.fb b.aT.length k.fc),(.slice qb2 ((lU (cq f a b) i o (x+1)).length) qc2),(.map (some m))],az qb2 qc2 234 2 (pf b.next.length (lU (cq f a b) i o (x+1))),dZ fH (fun n:Nat=>Value.int .i64 (n:Int)) m (pmap b.next.length (lU (cq f a b) i o (x+1))),bJ z2 L 3 1 (cm (ys.set x (ix (fm (cq f a b) o x) (order (cq f a b))))),oI z1 234 [vN (o/b.next.length),vN (o%b.next.length)],oI bx 227 [(.pointer (aD bp))]]++O1)) (by rw[show fC (cm ys) x [(vN (ix (fm (cq f a b) o x) (order (cq f a b))))]=cm (ys.set x (ix (fm (cq f a b) o x) (order (cq f a b))))from by simp[fC]];exact cd (aP _)) ?_
   refine cy ?_
   refine a_ (ae (dj (b:=1) x F F (by omega)) (bH ?_))
   refine⟨x+1,by omega,qb2,qc2,ys.set x (ix (fm (cq f a b) o x) (order (cq f a b))),F,by omega,by simp[Ee],fun y hy9=>?_,(.of F)⟩
   by_cases e:y=x
   ·subst e;rw[List.getElem?_set_self (by omega)]
   ·rw[List.getElem?_set_ne (fun h=>e h.symm)];exact AH y (by omega)
  have YO: ¬x<L:=by omega
  refine cD ?_
  refine br ?_
  have Cu:x=L:=by omega
  have e1:dY (cq f a b) (i+1)=lU (cq f a b) i o x:=by rw[Cu,←hL];exact(AU hq).symm
  have e3:tI (cq f a b) o=ys:=by
   apply List.ext_getElem?
   intro y
   by_cases hy9:y<L
   ·rw[AH y (by omega)]
    have hy8:y<2^(cq f a b).vars.toNat:=by show y<2^a.vars.toNat;omega
    unfold tI
    rw[bl,zT hy8];rfl
   ·rw[cn (by rw[tC];show 2^a.vars.toNat≤y;omega),cn (by omega)]
  have e2:ints (FQ (cq f a b) o)=cm ys:=by unfold FQ;rw[e3];simp[Function.comp_def]
  refine dq (O':=([oI bp 238 [(vI a.vars),(vI a.start),(.slice j.nb a.next.length j.nc),(.slice j.fb a.aT.length j.fc),(vI b.vars),(vI b.start),(.slice k.nb b.next.length k.nc),(.slice k.fb b.aT.length k.fc),(.slice Hr ((dY (cq f a b) (i+1)).length) Hs),(.map (some m))],az Hr Hs 234 2 (pf b.next.length (dY (cq f a b) (i+1))),dZ fH (fun n:Nat=>Value.int .i64 (n:Int)) m (pmap b.next.length (dY (cq f a b) (i+1))),bJ z2 L 3 1 (ints (FQ (cq f a b) o)),oI z1 234 [vN (o/b.next.length),vN (o%b.next.length)],oI bx 227 [(.pointer (aD bp))]]++O1)) (by rw[e1,e2];exact Sub.rf) ?_
  refine a_ (ay (eR 4 pU jk) (aN ?_))
  have Pz:=fh.under (B:=[oI z1 234 [vN (o/b.next.length),vN (o%b.next.length)],oI bx 227 [(.pointer (aD bp))]]) (O:=([oI bp 238 [(vI a.vars),(vI a.start),(.slice j.nb a.next.length j.nc),(.slice j.fb a.aT.length j.fc),(vI b.vars),(vI b.start),(.slice k.nb b.next.length k.nc),(.slice k.fb b.aT.length k.fc),(.slice Hr ((dY (cq f a b) (i+1)).length) Hs),(.map (some m))],az Hr Hs 234 2 (pf b.next.length (dY (cq f a b) (i+1))),dZ fH (fun n:Nat=>Value.int .i64 (n:Int)) m (pmap b.next.length (dY (cq f a b) (i+1))),bJ z2 L 3 1 (ints (FQ (cq f a b) o)),oI z1 234 [vN (o/b.next.length),vN (o%b.next.length)],oI bx 227 [(.pointer (aD bp))]]++O1)) (hy i o Hr Hs z2 O1 hq hJ) (iq [])
  refine ax (fT Pz F F ?_)
  clear Pz
  rintro vr O' ⟨A1,rfl,⟨rfl,O2,rfl,Yw⟩|⟨rfl,hQ2⟩⟩
  ·refine ae g_ ?_
   refine bi (bf (aE ?_))
   refine dq (O':=([oI bx 227 [(.pointer (aD bp))],oI bp 238 [(vI a.vars),(vI a.start),(.slice j.nb a.next.length j.nc),(.slice j.fb a.aT.length j.fc),(vI b.vars),(vI b.start),(.slice k.nb b.next.length k.nc),(.slice k.fb b.aT.length k.fc),(.slice Hr ((dY (cq f a b) (i+1)).length) Hs),(.map (some m))],az Hr Hs 234 2 (pf b.next.length (dY (cq f a b) (i+1))),dZ fH (fun n:Nat=>Value.int .i64 (n:Int)) m (pmap b.next.length (dY (cq f a b) (i+1)))]++O2)) (iq [oI z1 234 [vN (o/b.next.length),vN (o%b.next.length)]]) ?_
   refine a_ (ay (dj (b:=1) i F F (by omega)) (aj ?_))
   have EA:=(ky (cq f a b) i (i+1) (by omega)).length_le
   exact⟨i+1,by omega,Hr,Hs,O2,F,by omega,Yw,⟨F,F,F,trivial⟩⟩
  refine aX g_ ?_
  refine bW ?_
  refine cM (dS ?_)
  refine qS.zero results218 ?_
  exact⟨A1,cd (List.sublist_append_left _ _),.inr hQ2⟩
 have M1: ¬i<(dY (cq f a b) i).length:=by omega
 refine cD ?_
 refine dS ?_
 refine qS.zero results218 ?_
 have hN:(dY (cq f a b) i).length=i:=by omega
 exact⟨O1++[oI bp 238 [(vI a.vars),(vI a.start),(.slice j.nb a.next.length j.nc),(.slice j.fb a.aT.length j.fc),(vI b.vars),(vI b.start),(.slice k.nb b.next.length k.nc),(.slice k.fb b.aT.length k.fc),(.slice qb ((dY (cq f a b) i).length) qc),(.map (some m))],az qb qc 234 2 (pf b.next.length (dY (cq f a b) i)),dZ fH (fun n:Nat=>Value.int .i64 (n:Int)) m (pmap b.next.length (dY (cq f a b) i))],iq [oI bx 227 [(.pointer (aD bp))]],.inl ⟨i,qb,qc,O1,F,hN,hJ⟩⟩
theorem afm (w:World) [dQ prog w] (d:c_) (k:DK) (h:At w d k) (hb:d.next.length<9223372036854775807) (uv: ∀r∈d.next,r.length<9223372036854775807) (wM:d.aT.length<9223372036854775807) (hn:Valid d→d.next.length<10000):
  cB prog 23 [dV d k] w fun v N=> ∃k':DK,v=.tuple #[dV (Dh d) k',vI (di d:Int)]∧N=[dI 56 4 3 (Dh d) k']:=
 cx.dk (g:=fun x=>.tuple #[x,vI (di d:Int)]) (afn w d k.nb k.fb k.nc k.fc (dO k.qs) h hb uv wM hn)
theorem Bt (w:World) [dQ prog w] (d:c_) (k:DK) (h:At w d k) (hv:Valid d) (hn:d.next.length<10000) {M:c_} (hM:jD d=M):
  cB prog 23 [dV d k] w fun v N=> ∃k':DK,v=.tuple #[dV M k',vI 0]∧N=[dI 56 4 3 M k']:=by
 have h1:=afm w d k h (by have:=hv.n4;omega) hv.wO (by have:=hv.fin;have:=hv.n4;omega) (fun _=>hn)
 rw[Ht hv,hM,eL.2 hv]at h1
 exact h1
theorem afo (base:World) (x y:Bool):cx prog base 139 [.bool x,.bool y] [] (fun v O'=>v=.bool (q8 x y)∧O'=[]):=by
 refine aA func139 F ntmps139 F ?_
 refine aQ (aj (bo g_ (aj (cM ?_))))
 refine aF (.bool (!x)) results139 F ?_
 cases x<;>cases y<;>first|exact⟨F,F⟩|(exfalso;simp_all;done)|simp_all[tH,F9,LO,yj,q8]
set_option maxRecDepth 20000 in
theorem abQ (base:World) (x y:Bool):fh prog base (.func (.func 139) #[] #[]) [.bool x,.bool y] [] (fun v O'=>v=.bool (q8 x y)∧O'=[]):=cZ (first:=[]) (gU:=[]) W_ (afo base x y)
theorem afp (base:World) (x y:Bool):cx prog base 152 [.bool x,.bool y] [] (fun v O'=>v=.bool (tH x y)∧O'=[]):=by
 refine aA func152 F ntmps152 F ?_
 refine aQ (aj (a7 ?_))
 by_cases hs6:x=true
 ·refine ae (eT aw (hs6)) ?_
  refine ao aw (ae bw (aj (cM ?_)))
  refine aF (.bool y) results152 F ?_
  cases x<;>cases y<;>first|exact⟨F,F⟩|(exfalso;simp_all;done)|simp_all[tH,F9,LO,yj,q8]
 refine ae (eT aw (Bool.eq_false_iff.2 hs6)) (cY (ae bU (aj (cM ?_))))
 refine aF (.bool false) results152 F ?_
 cases x<;>cases y<;>first|exact⟨F,F⟩|(exfalso;simp_all;done)|simp_all[tH,F9,LO,yj,q8]
set_option maxRecDepth 20000 in
theorem aam (base:World) (x y:Bool):fh prog base (.func (.func 152) #[] #[]) [.bool x,.bool y] [] (fun v O'=>v=.bool (tH x y)∧O'=[]):=cZ (first:=[]) (gU:=[]) Xb (afp base x y)
theorem orF (base:World) (x y:Bool):cx prog base 151 [.bool x,.bool y] [] (fun v O'=>v=.bool (F9 x y)∧O'=[]):=by
 refine aA func151 F ntmps151 F ?_
 refine aQ (aj (a7 ?_))
 by_cases hs6:x=true
 ·refine ae (eT aw (hs6)) ?_
  refine cY (ae bw (aj (cM ?_)))
  refine aF (.bool true) results151 F ?_
  cases x<;>cases y<;>first|exact⟨F,F⟩|(exfalso;simp_all;done)|simp_all[tH,F9,LO,yj,q8]
 refine ae (eT aw (Bool.eq_false_iff.2 hs6)) (ao aw (ae bU (aj (cM ?_))))
 refine aF (.bool y) results151 F ?_
 cases x<;>cases y<;>first|exact⟨F,F⟩|(exfalso;simp_all;done)|simp_all[tH,F9,LO,yj,q8]
set_option maxRecDepth 20000 in
theorem aen (base:World) (x y:Bool):fh prog base (.func (.func 151) #[] #[]) [.bool x,.bool y] [] (fun v O'=>v=.bool (F9 x y)∧O'=[]):=cZ (first:=[]) (gU:=[]) Xa (orF base x y)
theorem Hu (w:World) [dQ prog w] (a b:c_) (j k:DK) (ha:At w a j) (hb:At w b k) (QF:a.next.length<9223372036854775807) (AQ: ∀r∈a.next,r.length<9223372036854775807) (AR:a.aT.length<9223372036854775807) (WO:b.next.length<9223372036854775807) (Pv: ∀r∈b.next,r.length<9223372036854775807) (Pw:b.aT.length<9223372036854775807) (g:Nat) (he:iy a b≠0):
  cB prog 138 [dV a j,dV b k,.func (.func g) #[] #[]] w fun v N=>v=.tuple #[dV Do ⟨none,0,none,0,[]⟩,vI (iy a b:Int)]∧N=[]:=by
 refine aA func138 F ntmps138 F ?_
 refine aQ (ax (ef ((dC a j)) (fun om=>?_)))
 refine ax (ef ((dC b k)) (fun y9=>?_))
 refine ax (ef [(.func (.func g) #[] #[])] (fun NO=>?_))
 refine ax (b_ bY (fun bx4=>?_))
 refine ax (b_ jS (fun bx5=>?_))
 refine bi (aG (eR 4 dm bY) (ae (eR 3 dm bY) (TO.lc OI (aO fun w1 hI=>(haveI:=eP hI;Pu w1 a b j k (hI.sE ha) (hI.sE hb) QF AQ AR WO Pv Pw he)) ?_)))
 rintro vr O' ⟨N,rfl,rfl,rfl⟩
 refine ay (bI _) (ae (bI _) (ax (b_ CM (fun bx6=>?_))))
 refine ax (c8 [(.pointer none)] 0 CM ?_)
 refine aS (bq (aN (aX d_ ?_)))
 refine bW ?_ (am Value.bool (aZ (by omega)))
 refine aG (dc _ kg bY F) (aN (ax (c8 [(vI 0),(vI 0),nS,nS] 2 bY ?_)))
 refine ax (c8 [(vI (iy a b:Int))] 1 jS ?_)
 refine dP ?_
 refine jn (i:=2) (j:=1) results138 dm F bY pH F F F F F F ?_
 exact⟨[],Sub.z,F,F⟩
theorem Fu (w:World) [dQ prog w] (a b:c_) (j k:DK) (ha:At w a j) (hb:At w b k) (va:Valid a) (vb:Valid b) (hv:a.vars=b.vars) (f:Bool→Bool→Bool) (g:Nat) (hf: ∀(base:World) (x y:Bool),fh prog base (.func (.func g) #[] #[]) [.bool x,.bool y] [] (fun v O'=>v=.bool (f x y)∧O'=[])):
  cB prog 138 [dV a j,dV b k,.func (.func g) #[] #[]] w fun v N=>((order (cq f a b)).length≤4096∧ ∃k':DK,v=.tuple #[dV (uz f a b) k',vI 0]∧N=[dI 56 4 3 (uz f a b) k'])∨(4096<(order (cq f a b)).length∧v=.tuple #[dV Do ⟨none,0,none,0,[]⟩,vI 10]∧N=[]):=by
 refine aA func138 F ntmps138 F ?_
 have h4:a.next.length*b.next.length≤4096*4096:=Nat.mul_le_mul va.n4 vb.n4
 obtain⟨L,hL⟩: ∃L,2^a.vars.toNat=L:=⟨_,F⟩
 have hw:L≤64:=by rw[←hL];exact va.width
 refine aQ (ax (ef ((dC a j)) (fun z1=>?_)))
 refine ax (ef ((dC b k)) (fun z2=>?_))
 refine ax (ef [(.func (.func g) #[] #[])] (fun z3=>?_))
 refine ax (b_ bY (fun z4=>?_))
 refine ax (b_ jS (fun z5=>?_))
 refine bi (aG (eR 4 dm bY) (ae (eR 3 dm bY) (TO.lc OI (aO fun w1 hI=>(haveI:=eP hI;SI w1 a b j k (hI.sE ha) (hI.sE hb) va vb hv)) ?_)))
 rintro vr O' ⟨N,rfl,bp,qb,m,rfl,rfl⟩
 refine ay (bI _) (ae (bI _) (ax (b_ CM (fun z6=>?_))))
 refine ax (c8 [(.pointer (aD bp))] 0 CM ?_)
 refine aS (bq (aN (aX d_ (bf (aE (aG (bu dm bM) (ae (bF 8 eO) (ae (dc [(vI a.vars),(vI 0),nS,nS] kg bY (by kernel_rfl)) (ax (b_ bY (fun z7=>?_)))))))))))
 refine ax (c8 [(vI a.vars),(vI 0),nS,nS] 0 bY ?_)
 refine dJ (br (T.fJ 4 1 ?_))
 refine T.fJ 56 1 ?_
 refine a_ (ae (bF 3 xu) (TO.lc Xe (aO fun w1 hI=>(haveI:=eP hI;XB w1 bp)) ?_))
 rintro vr O' ⟨N,rfl,bP,rfl,rfl⟩
 refine bi (aK ?_)
 refine T.rangeFunc (first:=[]) (gU:=[(.pointer (aD bP))]) F Xi (fun yl yq yhq=>?_)
 let gd:Lx.Item:=oI z4 25 [(vI 0),(vI 0),nS,nS]
 let fR:Lx.Item:=oI z3 197 [(.func (.func g) #[] #[])]
 let iB:Lx.Item:=oI z6 227 [(.pointer (aD bp))]
 let jz:Lx.Item:=oI z5 27 [(vI 0)]
 let qM:Lx.Item:=oI z2 25 (dC b k)
 let np:Lx.Item:=oI z1 25 (dC a j)
 refine cx.mono (cx.sub (O':=oI bP 227 [(.pointer (aD bp))]::oI bp 238 [(vI a.vars),(vI a.start),(.slice j.nb a.next.length j.nc),(.slice j.fb a.aT.length j.fc),(vI b.vars),(vI b.start),(.slice k.nb b.next.length k.nc),(.slice k.fb b.aT.length k.fc),(.slice (aD qb) ([a.start.toNat*b.next.length+b.start.toNat].length) 1),(.map (some m))]::bJ qb 1 234 2 (pf b.next.length [a.start.toNat*b.next.length+b.start.toNat])::dZ fH (fun n:Nat=>Value.int .i64 (n:Int)) m (pmap b.next.length [a.start.toNat*b.next.length+b.start.toNat])::(eu yl (lp yq none)::[az none 0 56 1 (dO []),az none 0 4 1 (cO []),oI z7 25 [(vI a.vars),(vI 0),nS,nS],iB,jz,gd,fR,qM,np])) (cH [1,5,5,5,0,0,0,0,0,0,0,0,0,0]) (XC w f a b j k ha hb va vb hv L hL bP bp m (aD qb) 1 (.func (.yield yl) #[] #[]) (fun i O=> ∃(K7 LF:Option Addr) (K8 LG n1 n2:Nat) (qs:List Rec) (fs:List Bool),O=eu yl (lp yq none)::([az K7 K8 56 1 (dO qs),az LF LG 4 1 (cO fs),oI z7 25 [(vI a.vars),(vI 0),(.slice K7 n1 K8),(.slice LF n2 LG)],iB,jz,gd,fR,qM,np]++(cw 3 qs))∧n1=i∧n2=i∧qs.length=i∧fs.length=i∧nums qs=((order (cq f a b)).take i).map (FQ (cq f a b))∧fs=((order (cq f a b)).take i).map (dR (cq f a b))∧(dY (cq f a b) i).length≤4096) (fun O=>O=eu yl (lp yq (some .ret))::[oI z5 27 [(vI 10)],gd]∧4096<(order (cq f a b)).length) ?_ _ ?_)) ?_
 ·intro i o qb qc rb O hq hJ
  obtain⟨K7,LF,K8,LG,n1,n2,qs,fs,rfl,Zh,Q3,Kb,oG,DX,oF,HR⟩:=hJ
  refine fh.yield yhq F F ?_
  let eH:Lx.Item:=oI bp 238 [(vI a.vars),(vI a.start),(.slice j.nb a.next.length j.nc),(.slice j.fb a.aT.length j.fc),(vI b.vars),(vI b.start),(.slice k.nb b.next.length k.nc),(.slice k.fb b.aT.length k.fc),(.slice qb ((dY (cq f a b) (i+1)).length) qc),(.map (some m))]
  let gn:Lx.Item:=az qb qc 234 2 (pf b.next.length (dY (cq f a b) (i+1)))
  let kp:Lx.Item:=oI z7 25 [(vI a.vars),(vI 0),(.slice K7 n1 K8),(.slice LF n2 LG)]
  let sJ:Lx.Item:=bJ rb L 3 1 (ints (FQ (cq f a b) o))
  let nF:Lx.Item:=az LF LG 4 1 (cO fs)
  refine dq (O':=([az K7 K8 56 1 (dO qs),nF,kp,iB,jz,gd,fR,qM,np,eH,gn,dZ fH (fun n:Nat=>Value.int .i64 (n:Int)) m (pmap b.next.length (dY (cq f a b) (i+1))),sJ]++cw 3 qs)) (by exact gR [az K7 K8 56 1 (dO qs),nF,kp,iB,jz,gd,fR,qM,np] _ (cw 3 qs)) ?_
  have R6:=nW (f:=f) va vb hv i
  have hil:=(List.getElem?_eq_some_iff.1 hq).1
  have ho:=(mx (f:=f) va vb hv i).2 o (bT hq)
  obtain⟨hs,ht⟩:=q5 ho
  have hoa:=UU hq (by rw[kx];omega)
  have hfa:(cO a.aT)[o/b.next.length]? =some (.bool (dR a (o/b.next.length))):=by
   have hl:o/b.next.length<a.aT.length:=by rw[va.fin];exact hs
   rw[j9 hl];unfold dR;rw[au,ak hl];rfl
  have AL:(cO b.aT)[o%b.next.length]? =some (.bool (dR b (o%b.next.length))):=by
   have hl:o%b.next.length<b.aT.length:=by rw[vb.fin];exact ht
   rw[j9 hl];unfold dR;rw[au,ak hl];rfl
  have L5:(FQ (cq f a b) o).length=L:=by unfold FQ;rw[ai,tC];exact hL
  have hvq:dO (qs++[⟨some ⟨rb,0,none⟩,L,FQ (cq f a b) o⟩])=dO qs++[.slice (aD rb) L L]:=by simp[Rec.val,L5]
  have hbq:cO (fs++[f (dR a (o/b.next.length)) (dR b (o%b.next.length))])=cO fs++[.bool (f (dR a (o/b.next.length)) (dR b (o%b.next.length)))]:=by simp
  have aka:=nW (f:=f) va vb hv (i+1)
  refine aQ (ax (b_ jk (fun z8=>?_)))
  refine ax (c8 [vN (o/b.next.length),vN (o%b.next.length)] 0 jk ?_)
  refine bi (a_ (aj (aK (br (aG (bF 4 xu) (ae bg (ae (bu qR sg) (ae (bF 10 oD) (ae (cL oD) (aX gT (aL F (fun hc=>?_) (fun hc=>?_))))))))))))
  ·have DN:(dY (cq f a b) (i+1)).length>4096:=by omega
   refine aG (dc _ kg bY F) (ax (c8 [(vI 0),(vI 0),nS,nS] 6 bY ?_))
   refine ax (c8 [(vI 10)] 5 jS ?_)
   refine dW (O':=[oI z5 27 [(vI 10)],gd]) (by exact Sub.d (.d (.d (.d (.d (.k (.k .z))))))) ?_
   refine Q4 ?_
   exact .inr ⟨F,⟨F,eQ (by omega) (ky (cq f a b) (i+1) (cq f a b).next.length (by rw[kx];omega)).length_le⟩⟩
  have DP: ¬(dY (cq f a b) (i+1)).length>4096:=by omega
  refine aE ?_
  let li:Lx.Item:=oI z8 234 [vN (o/b.next.length),vN (o%b.next.length)]
  refine T.ds [li,kp,iB,jz,gd,fR,qM,np,eH] [(0,0),(1,0),(2,0),(5,0),(6,0),(7,0),(8,0),(9,0),(10,0),(11,0),(12,0),(13,0),(14,0),(15,0),(16,0),(17,0),(18,0),(19,0),(3,1),(4,1),(23,0),(20,1),(21,1),(22,1),(24,2),(25,2),(26,2)] (by exact Sub.k (.d (.d (.k (.k (.k (.k (.k (.k (.k (.k .z))))))))))) ?_
  refine ap F (bu dm fx) (ap F (bF 1 eY) (ap F aw (ap F (bu dm e7) (ap F (bF 1 eS) (ap F (bF 5 abS) (ap F (bu dm e7) (ap F (bF 7 eS) (ap F (bu pU bM) (ap F (bF 0 eO) (ap F (dB ((o/b.next.length)) eS gq F F (a6 ha.aT) (by rw[va.fin];exact hs) (by rw[ai,va.fin];exact hs)) (ap F (dD uT F F ha.aT hfa) (ap F (bu dm e7) (ap F (bF 6 eS) (ap F (bu pU bM) (ap F (bF 0 eO) (ap F (dB ((o%b.next.length)) eS gq F F (a6 hb.aT) (by rw[vb.fin];exact ht) (by rw[ai,vb.fin];exact ht)) (ap F (dD uT F F hb.aT AL) ?_)))))))))))))))))
  refine cG F F (dL (v:=(.slice (aD rb) L L)) eY eo F F F (fun z9=>⟨by exact Sub.d (.k (.d (.d (.k (.k (.k (.k (.k (.k (.k (.k .z))))))))))),?_⟩))
  refine cG F F (dE 2 eY eY eo F F F F (by simp;omega) (by decide) (Src.row (j:=0) F (by simp)) (by simp[fS]) (by omega) (by decide) (by decide) (fun xV rV=>⟨by exact Sub.d (.k (.d (.d (.k (.k (.k (.k (.k (.k (.k (.k .z))))))))))),?_⟩))
  refine ap F (bu dm fx) ?_
  let lZ:Lx.Item:=az xV rV 56 1 ((dO qs)++[(.slice (aD rb) L L)])
  have MZ:=fh.under (B:=([bJ z9 1 56 1 [(.slice (aD rb) L L)],li,lZ,nF,kp,iB,jz,gd,fR,qM,np,eH,gn,dZ fH (fun n:Nat=>Value.int .i64 (n:Int)) m (pmap b.next.length (dY (cq f a b) (i+1))),sJ]++cw 3 qs)) (O:=([bJ z9 1 56 1 [(.slice (aD rb) L L)],li,lZ,nF,kp,iB,jz,gd,fR,qM,np,eH,gn,dZ fH (fun n:Nat=>Value.int .i64 (n:Int)) m (pmap b.next.length (dY (cq f a b) (i+1))),sJ]++(cw 3 qs))) (hf w (dR a (o/b.next.length)) (dR b (o%b.next.length))) (by exact Sub.rf)
  refine cG F F (fT MZ F F ?_)
  clear MZ
  rintro vr O' ⟨A1,rfl,rfl,rfl⟩
  refine⟨by exact Sub.d (.k (.d (.d (.k (.k (.k (.k (.k (.k (.k (.k .z))))))))))),?_⟩
  refine cG F F (dL (v:=.bool (f (dR a (o/b.next.length)) (dR b (o%b.next.length)))) eS gq F F F (fun z12=>⟨by exact Sub.d (.d (.k (.d (.d (.k (.k (.k (.k (.k (.k (.k (.k .z)))))))))))),?_⟩))
  refine cG F F (dE 4 eS eS gq F F F F (by simp;omega) (by decide) (Src.row (j:=0) F (by simp)) (by simp[fS]) (by omega) (by decide) (by decide) (fun sH td=>⟨by exact Sub.d (.d (.k (.d (.d (.k (.k (.k (.k (.k (.k (.k (.k .z)))))))))))),?_⟩))
  refine cA F F (c8 [(.slice xV (n1+1) rV)] 5 fx ?_)
  refine cA F F (eV F F (bu dm e7) ?_)
  refine cA F F (c8 [(.slice sH (n2+1) td)] 5 e7 ?_)
  let mF:Lx.Item:=oI z7 25 [(vI a.vars),(vI 0),(.slice xV (n1+1) rV),(.slice sH (n2+1) td)]
  refine fj (O':=([lZ,az sH td 4 1 ((cO fs)++[.bool (f (dR a (o/b.next.length)) (dR b (o%b.next.length)))]),mF,iB,jz,gd,fR,qM,np,sJ,eH,gn,dZ fH (fun n:Nat=>Value.int .i64 (n:Int)) m (pmap b.next.length (dY (cq f a b) (i+1)))]++cw 3 qs)) (by exact Sub.d (.d (.d (.k (.k (.k (.k (.k (.k (.k (.k (.k (.fz [eH,gn,dZ fH (fun n:Nat=>Value.int .i64 (n:Int)) m (pmap b.next.length (dY (cq f a b) (i+1)))] _ (.k (.k (.k .rf)))))))))))))))) ?_
  refine fj (O':=(([az xV rV 56 1 (dO (qs++[⟨some ⟨rb,0,none⟩,L,FQ (cq f a b) o⟩])),az sH td 4 1 (cO (fs++[f (dR a (o/b.next.length)) (dR b (o%b.next.length))])),mF,iB,jz,gd,fR,qM,np]++cw 3 (qs++[⟨some ⟨rb,0,none⟩,L,FQ (cq f a b) o⟩]))++[eH,gn,dZ fH (fun n:Nat=>Value.int .i64 (n:Int)) m (pmap b.next.length (dY (cq f a b) (i+1)))])) (by rw[hvq,hbq];exact Sub.fold [az xV rV 56 1 ((dO qs)++[(.slice (aD rb) L L)]),az sH td 4 1 ((cO fs)++[.bool (f (dR a (o/b.next.length)) (dR b (o%b.next.length)))]),oI z7 25 [(vI a.vars),(vI 0),(.slice xV (n1+1) rV),(.slice sH (n2+1) td)],oI z6 227 [(.pointer (aD bp))],oI z5 27 [(vI 0)],oI z4 25 [(vI 0),(vI 0),nS,nS],oI z3 197 [(.func (.func g) #[] #[])],oI z2 25 (dC b k),oI z1 25 (dC a j)] (bJ rb L 3 1 (ints (FQ (cq f a b) o))) [oI bp 238 [(vI a.vars),(vI a.start),(.slice j.nb a.next.length j.nc),(.slice j.fb a.aT.length j.fc),(vI b.vars),(vI b.start),(.slice k.nb b.next.length k.nc),(.slice k.fb b.aT.length k.fc),(.slice qb ((dY (cq f a b) (i+1)).length) qc),(.map (some m))],az qb qc 234 2 (pf b.next.length (dY (cq f a b) (i+1))),dZ fH (fun n:Nat=>Value.int .i64 (n:Int)) m (pmap b.next.length (dY (cq f a b) (i+1)))] (cw 3 qs) _ (JJ 3 qs ⟨some ⟨rb,0,none⟩,L,FQ (cq f a b) o⟩)) ?_
  refine cy ?_
  refine .inl ⟨F,_,F,xV,sH,rV,td,n1+1,n2+1,qs++[⟨some ⟨rb,0,none⟩,L,FQ (cq f a b) o⟩],fs++[f (dR a (o/b.next.length)) (dR b (o%b.next.length))],F,by omega,by omega,by simp[Kb],by simp[oG],?_,?_,by omega⟩
  ·rw[take_at hoa,bm]
   show List.map Rec.xs (qs++[_])=_
   rw[bm,show List.map Rec.xs qs=_ from DX];rfl
  ·rw[take_at hoa,bm,oF,←JI (f:=f) ho];rfl
 ·refine⟨none,none,0,0,0,0,[],[],F,F,F,F,F,by simp,by simp,by simp[dY]⟩
 rintro v O' (⟨N,qbF,qcF,O2,rfl,hN,K7,LF,K8,LG,n1,n2,qs,fs,rfl,Zh,Q3,Kb,oG,DX,oF,HR⟩|⟨rfl,abT⟩)
 ·refine⟨none,_,F,?_⟩
  have hN8:(order (cq f a b)).length≤4096:=by rw[HK va vb hv hN];omega
  refine br ?_
  refine dq (O':=([az K7 K8 56 1 (dO qs),az LF LG 4 1 (cO fs),oI z7 25 [(vI a.vars),(vI 0),(.slice K7 n1 K8),(.slice LF n2 LG)],iB,jz,gd,fR,qM,np]++cw 3 qs)) (cd (List.sublist_append_left _ _)) ?_
  have hor:=HK va vb hv hN
  have Wq:(order (cq f a b)).length=N:=by rw[hor];exact hN
  have e1:nums qs=(eB (cq f a b)).next:=by rw[DX,←Wq,List.take_length];exact(tJ _).symm
  have e2:fs=(eB (cq f a b)).aT:=by rw[oF,←Wq,List.take_length];rfl
  obtain rfl:n1=(eB (cq f a b)).next.length:=by rw[tJ,ai];omega
  obtain rfl:n2=(eB (cq f a b)).aT.length:=by rw[Ge,ai];omega
  subst e2
  have vD:=k8 (f:=f) va.toVal vb.toVal hv
  have vR:=vP vD hN8
  refine dq (O':=([az K7 K8 56 1 (dO qs),az LF LG 4 1 (cO (eB (cq f a b)).aT),oI z7 25 [(vI (eB (cq f a b)).vars),(vI (eB (cq f a b)).start),(.slice K7 ((eB (cq f a b)).next.length) K8),(.slice LF ((eB (cq f a b)).aT.length) LG)],iB,jz,gd,fR,oI z2 25 (dC b k),oI z1 25 (dC a j)]++cw 3 qs)) (by exact Sub.rf) ?_
  refine a_ (ae (eR 2 dm bY) (TO.lc Bs (aO fun w1 hI=>(haveI:=eP hI;Bt w1 (eB (cq f a b)) ⟨K7,K8,LF,LG,qs⟩ (show At w1 (eB (cq f a b)) ⟨K7,K8,LF,LG,qs⟩from⟨hI.ij (mG 0),e1▸hI.Zc (fun q hq=>ah _ (List.mem_map_of_mem (f:=Rec.qW 3) hq)),hI.ij (mG 1)⟩) vR (by rw[tJ,ai];exact kG hN8 (by decide)) (yz vD))) ?_))
  rintro vr O' ⟨N9,rfl,k',rfl,rfl⟩
  refine ae (bI _) (ae (bI _) (ax (c8 ((dC (jD (cq f a b)) k')) 6 bY ?_)))
  refine ax (c8 [(vI 0)] 5 jS ?_)
  refine dP ?_
  refine jn (i:=6) (j:=5) results138 dm F bY pH F F F F F F ?_
  exact⟨[dI 56 4 3 (jD (cq f a b)) k'],(by exact Sub.k .z),.inl ⟨hN8,k',F,F⟩⟩
 refine⟨some .ret,_,F,?_⟩
 refine dS ?_
 refine jn (i:=1) (j:=0) results138 dm F bY pH F F F F F F ?_
 exact⟨[],Sub.z,.inr ⟨abT,F,F⟩⟩
set_option maxRecDepth 20000 in
theorem Es (w:World) [dQ prog w] (a b:c_) (j k:DK) (ha:At w a j) (hb:At w b k) (va:Valid a) (vb:Valid b) (hv:a.vars=b.vars) (f:Bool→Bool→Bool) (g:Nat) (hf: ∀(base:World) (x y:Bool),fh prog base (.func (.func g) #[] #[]) [.bool x,.bool y] [] (fun v O'=>v=.bool (f x y)∧O'=[])) (hN8:(order (cq f a b)).length≤4096):
  cB prog 138 [dV a j,dV b k,.func (.func g) #[] #[]] w fun v N=> ∃k':DK,v=.tuple #[dV (uz f a b) k',vI 0]∧N=[dI 56 4 3 (uz f a b) k']:=
 (Fu w a b j k ha hb va vb hv f g hf).mono fun v N h=>h.elim (fun h=>h.2) (fun h=>absurd h.1 (by omega))
set_option maxRecDepth 20000 in
theorem GU (w:World) [dQ prog w] (a b:c_) (j k:DK) (ha:At w a j) (hb:At w b k) (va:Valid a) (vb:Valid b) (hv:a.vars=b.vars) (f:Bool→Bool→Bool) (g:Nat) (hf: ∀(base:World) (x y:Bool),fh prog base (.func (.func g) #[] #[]) [.bool x,.bool y] [] (fun v O'=>v=.bool (f x y)∧O'=[])) (abT:4096<(order (cq f a b)).length):
  cB prog 138 [dV a j,dV b k,.func (.func g) #[] #[]] w fun v N=>v=.tuple #[dV Do ⟨none,0,none,0,[]⟩,vI 10]∧N=[]:=
 (Fu w a b j k ha hb va vb hv f g hf).mono fun v N h=>h.elim (fun h=>absurd h.1 (by omega)) (fun h=>h.2)
set_option maxRecDepth 20000 in
theorem PA (w:World) [dQ prog w] (a b:c_) (j k:DK) (ha:At w a j) (hb:At w b k) (QF:a.next.length<9223372036854775807) (AQ: ∀r∈a.next,r.length<9223372036854775807) (AR:a.aT.length<9223372036854775807) (WO:b.next.length<9223372036854775807) (Pv: ∀r∈b.next,r.length<9223372036854775807) (Pw:b.aT.length<9223372036854775807) (f:Bool→Bool→Bool) (g:Nat) (hf: ∀(base:World) (x y:Bool),fh prog base (.func (.func g) #[] #[]) [.bool x,.bool y] [] (fun v O'=>v=.bool (f x y)∧O'=[])) (hN:iy a b=0→(order (cq f a b)).length≤4096):
  cB prog 138 [dV a j,dV b k,.func (.func g) #[] #[]] w fun v N=> ∃k':DK,v=.tuple #[dV (Lp f a b) k',vI (iy a b:Int)]∧N=[dI 56 4 3 (Lp f a b) k']:=by
 by_cases he:iy a b=0
 ·obtain⟨va,vb,hv⟩:=q_.1 he
  rw[LR he,he]
  exact Es w a b j k ha hb va vb hv f g hf (hN he)
 ·rw[QN he]
  refine cx.dk (g:=fun x=>.tuple #[x,vI (iy a b:Int)]) ((gK 56 1 (gK 4 1 (Hu w a b j k ha hb QF AQ AR WO Pv Pw g he))).mono ?_)
  rintro v N ⟨O2,rfl,O3,rfl,rfl,rfl⟩
  exact⟨none,0,none,0,[],F,F,F⟩
theorem abU (w:World) [dQ prog w] (a:c_) (j:DK) (ha:At w a j) (QF:a.next.length<9223372036854775807) (AQ: ∀r∈a.next,r.length<9223372036854775807) (AR:a.aT.length<9223372036854775807) (hN:iy a a=0→(order (cq q8 a a)).length≤4096):
  cB prog 102 [dV a j] w fun v N=> ∃k':DK,v=.tuple #[dV (Lp q8 a a) k',vI (iy a a:Int)]∧N=[dI 56 4 3 (Lp q8 a a) k']:=by
 refine aA func102 F ntmps102 F ?_
 refine aQ (ax (ef ((dC a j)) (fun om=>?_)))
 refine ax (b_ bY (fun y9=>?_))
 refine aj (aG (eR 1 dm bY) (ae (eR 1 dm bY) (TO.lc GV (aO fun w1 hI=>(haveI:=eP hI;PA w1 a a j j (hI.sE ha) (hI.sE ha) QF AQ AR QF AQ AR q8 139 abQ hN)) ?_)))
 rintro vr O' ⟨N,rfl,k',rfl,rfl⟩
 refine ae (bI _) (ae (bI _) (ax (c8 ((dC (Lp q8 a a) k')) 1 bY ?_)))
 refine aR ?_
 refine kO (vI (iy a a:Int)) (i:=1) results102 dm F bY F F F F ?_
 exact⟨[dI 56 4 3 (Lp q8 a a) k'],(by exact Sub.k .z),k',F,F⟩
theorem aeo (w:World) [dQ prog w] (a:c_) (j:DK) (ha:At w a j) (QF:a.next.length<9223372036854775807) (AQ: ∀r∈a.next,r.length<9223372036854775807) (AR:a.aT.length<9223372036854775807):
  cB prog 102 [dV a j] w fun v N=> ∃k':DK,v=.tuple #[dV (Lp q8 a a) k',vI (di a:Int)]∧N=[dI 56 4 3 (Lp q8 a a) k']:=by
 have h:=abU w a j ha QF AQ AR (fun hw=>by
  have hv:=(q_.1 hw).1
  exact bE (q9 hv.toVal hv.toVal F hv.toVal F (QM.refl a) (QM.refl a)) hv.n4)
 rwa[wN]at h
end Go.Proofs.YtgdbfideeeegmaaGreatDoor


/- Contracts of functions of the program, and what they answer. Conditions: those each theorem names. -/
import Derived.Test.YtgdbfideeeegmaaGreatDoorA2
import Derived.Test.YtgdbfideeeegmaaGreatDoorA4
import Derived.Test.YtgdbfideeeegmaaGreatDoorA3
set_option linter.unusedSectionVars false
set_option linter.unusedSimpArgs false
set_option linter.unusedVariables false
set_option linter.unnecessarySimpa false
set_option maxHeartbeats 8000000
set_option maxRecDepth 20000
namespace Go.Proofs.YtgdbfideeeegmaaGreatDoor
open Go.Lx Go.RowKit _root_.Go.Proofs.Tryz
theorem QQ (w:World) [cG Tryz.prog w] (d:bY) (nb fb:Option Addr) (nc fc:Nat) (vs:List Value) (h:eA w d nb vs fb) (hb:d.next.length<9223372036854775807) (jy: ∀r∈d.next,r.length<9223372036854775807) (j6:d.aA.length<9223372036854775807) (he:bW d≠0):
  bs Tryz.prog 23 [.agg (cB d nb nc fb fc).toArray] w fun v N=>v=.tuple #[.agg #[vI 0,vI 0,nS,nS],vI (bW d:Int)]∧N=[]:=by
 refine av func23 F ntmps23 F ?_
 refine ai (aj F (cL (cs:=[(vI d.vars),(vI d.start),(.slice nb d.next.length nc),(.slice fb d.aA.length fc)]) F F (fun b1=>?_)))
 refine aj F (aR aX F (fun b2=>?_))
 refine TO.qa F (ae (ai (ad (cN 1 cy F aX F F F) ?_)))
 have Bc:=fun(w1:World) (hI:Inv w [oI b2 25 [(vI 0),(vI 0),nS,nS],oI b1 25 [(vI d.vars),(vI d.start),(.slice nb d.next.length nc),(.slice fb d.aA.length fc)]] w1)=>(haveI:=dp hI;Dr w1 d nb fb nc fc vs (hI.u4 h) hb jy j6 he)
 refine aj F (aI NJ (aE Bc) F ?_)
 clear Bc
 rintro v O' ⟨N,rfl,rfl,rfl⟩
 refine ah F (ad (bm (vs:=_) F F) (ad (bm (vs:=_) F F) (aj F (aR bP F (fun b3=>?_)))))
 refine aj F (bj (vs:=[nS]) 0 bP F F F F ?_)
 refine TO.qa F (ae (ax (ai (ah F (ad (ar (cS F F) (decide_eq_true (by omega))) (ae ?_))))))
 refine bg F ?_
 refine ai (ad (bE gK aX F) (ah F (aj F (bj (vs:=[(vI 0),(vI 0),nS,nS]) 1 aX F F F F ?_))))
 refine TO.qa F (ae (az (ao ?_)))
 refine iJ (vI (bW d:Int)) (i:=1) Tryz.results23 cy F aX F F F F ?_
 exact⟨[],a_ (List.nil_sublist _),F,F⟩
theorem U9 (w:World) [cG Tryz.prog w] (d:bY) (nb fb:Option Addr) (nc fc:Nat) (vs:List Value) (h:eA w d nb vs fb) (hv:Valid d) (hn:d.next.length<10000) (U_:Valid (quo d (fj d d.next.length))) (Va:(quo d (fj d d.next.length)).next.length<10000):
  bs Tryz.prog 23 [.agg (cB d nb nc fb fc).toArray] w fun v N=> ∃oF oG kI kJ qs,v=.tuple #[.agg (cB (cO (quo d (fj d d.next.length))) oF oG kI kJ).toArray,vI 0]∧N=[ak oF oG 56 1 (bO qs),ak kI kJ 4 1 (aU (cO (quo d (fj d d.next.length))).aA)]++bl 3 qs∧nums qs=(cO (quo d (fj d d.next.length))).next:=by
 refine av func23 F ntmps23 F ?_
 obtain⟨cs,uc⟩: ∃cs,fj d d.next.length=cs:=⟨_,F⟩
 rw[uc]at U_ Va⊢
 have mj:cs.length=d.next.length:=uc▸dw d _
 have pI: ∀x∈cs,x<10000:=uc▸JB hn _
 have sB:=hv.s0
 have J1:=hv.s1
 have GZ:=hv.n0
 have MU:=hv.n4
 have nL:d.start.toNat<cs.length:=by omega
 have hb:d.next.length<9223372036854775807:=by omega
 refine ai (aj F (cL (cs:=[(vI d.vars),(vI d.start),(.slice nb d.next.length nc),(.slice fb d.aA.length fc)]) F F (fun z1=>?_)))
 refine aj F (aR aX F (fun z2=>?_))
 refine TO.qa F (ae (ai (ad (cN 1 cy F aX F F F) ?_)))
 have Bc:=fun(w1:World) (hI:Inv w [oI z2 25 [(vI 0),(vI 0),nS,nS],oI z1 25 [(vI d.vars),(vI d.start),(.slice nb d.next.length nc),(.slice fb d.aA.length fc)]] w1)=>(haveI:=dp hI;F_ w1 d nb fb nc fc vs (hI.u4 h) hv hn)
 refine aj F (aI NJ (aE Bc) F ?_)
 clear Bc
 rintro v O' ⟨N,rfl,cb,cc,rfl,rfl⟩
 rw[uc]
 refine ah F (ad (bm (vs:=_) F F) (ad (bm (vs:=_) F F) (aj F (aR bP F (fun z3=>?_)))))
 refine aj F (bj (vs:=[(.slice cb d.next.length cc)]) 0 bP F F F F ?_)
 refine TO.qa F (ae (ax (ai (ah F (ad (cS F F) (ae (aL F (aq (ax ?_)))))))))
 refine T.ds [oI z3 56 [(.slice cb d.next.length cc)],ak cb cc 3 1 (aQ cs),oI z1 25 [(vI d.vars),(vI d.start),(.slice nb d.next.length nc),(.slice fb d.aA.length fc)]] [(0,0),(1,0),(2,0),(3,0),(4,0),(5,0),(6,0),(7,0),(8,1),(9,2)] (au [0,0,1] F) ?_
 refine am F (aJ cy F aM F F) (am F (aO 2 dh F F F F) (am F (aO 0 bT F F F F) (am F (aJ cy F aM F F) (am F (aO 2 dh F F F F) (am F (xE (i:=d.start) bT aM F F (cw (mG 1 F)) sB (mj▸nL) (by rw[List.length_map];exact nL)) (am F (bS dh F F (cw (mG 1 F)) (show(aQ cs)[d.start.toNat]? =some (vN (cs.getD d.start.toNat 0)) by rw[eK nL];simp[nL])) (am F (bE (cs:=[(vI d.vars),vN (cs.getD d.start.toNat 0),nS,nS]) gK aX (by kernel_rfl)) ?_)))))))
 refine bJ F F (aR aX F (fun z4=>⟨au [1,1,2] F,?_⟩))
 refine bq F F (bj (vs:=[(vI d.vars),vN (cs.getD d.start.toNat 0),nS,nS]) 0 aX F F F F ?_)
 refine bu ?_
 refine ax (ai (ad (cN 4 cy F aX F F F) ?_))
 have na:=fun(w1:World) (hI:Inv w [oI z4 25 [(vI d.vars),vN (cs.getD d.start.toNat 0),nS,nS],oI z3 56 [(.slice cb d.next.length cc)],ak cb cc 3 1 (aQ cs),oI z2 25 [(vI 0),(vI 0),nS,nS],oI z1 25 [(vI d.vars),(vI d.start),(.slice nb d.next.length nc),(.slice fb d.aA.length fc)]] w1)=>(haveI:=dp hI;NS w1 d nb fb nc fc)
 refine aj F (aI NK (aE na) F ?_)
 clear na
 rintro v O' ⟨N,rfl,bR,rfl,rfl⟩
 refine ae (T.dt 4 1 ?_)
 refine T.dt 56 1 ?_
 refine cu (O':=[oI bR 25 [(vI d.vars),(vI d.start),(.slice nb d.next.length nc),(.slice fb d.aA.length fc)],oI z4 25 [(vI d.vars),vN (cs.getD d.start.toNat 0),nS,nS],ak none 0 56 1 (bO []),ak none 0 4 1 (aU []),oI z3 56 [(.slice cb d.next.length cc)],ak cb cc 3 1 (aQ cs),oI z2 25 [(vI 0),(vI 0),nS,nS],oI z1 25 [(vI d.vars),(vI d.start),(.slice nb d.next.length nc),(.slice fb d.aA.length fc)]]) (au [2,2,0,0,0,0,0,0] F) ?_
 refine aC ?_
 refine T.rangeFunc (first:=[]) (fK:=[(.pointer (aD bR))]) F NN (fun yl yq XC=>?_)
 refine bw.mono (bw.sub (O':=oI bR 25 [(vI d.vars),(vI d.start),(.slice nb d.next.length nc),(.slice fb d.aA.length fc)]::(da yl (lp yq none)::[oI z4 25 [(vI d.vars),vN (cs.getD d.start.toNat 0),nS,nS],ak none 0 56 1 (bO []),ak none 0 4 1 (aU []),oI z3 56 [(.slice cb d.next.length cc)],ak cb cc 3 1 (aQ cs),oI z2 25 [(vI 0),(vI 0),nS,nS],oI z1 25 [(vI d.vars),(vI d.start),(.slice nb d.next.length nc),(.slice fb d.aA.length fc)]])) (au [1,0,0,0,0,0,0,0,0] F) (NT w d nb fb nc fc vs h hb bR (.func (.yield yl) #[] #[]) (fun k O=> ∃(ob fI:Option Addr) (oc fJ:Nat) (qs:List Rec) (fs:List Bool),O=da yl (lp yq none)::([oI z4 25 [(vI d.vars),(vN (cs.getD d.start.toNat 0)),(.slice ob qs.length oc),(.slice fI fs.length fJ)],ak ob oc 56 1 (bO qs),ak fI fJ 4 1 (aU fs),oI z3 56 [(.slice cb d.next.length cc)],ak cb cc 3 1 (aQ cs),oI z2 25 [(vI 0),(vI 0),nS,nS],oI z1 25 [(vI d.vars),(vI d.start),(.slice nb d.next.length nc),(.slice fb d.aA.length fc)]]++(bl 3 qs))∧k≤d.next.length∧nums qs=(fH d cs k).1∧fs=(fH d cs k).2) (fun _=>False) ?_ _ ?_)) ?_
 ·intro k eU vb vc O g1 s1 hJ
  obtain⟨ob,fI,oc,fJ,qs,fs,rfl,hk,rJ,j8⟩:=hJ
  refine dW.yield XC F F ?_
  have Kj:k<cs.length:=by omega
  have wO:qs.length=(fH d cs k).1.length:=by rw[←rJ];simp
  have qp:fs.length=(fH d cs k).1.length:=by rw[j8];exact(iq d cs k).1.symm
  have hqk:=(iq d cs k).2
  have Gw:k<d.aA.length:=by have:=hv.fin;omega
  have yw:d.next[k].length≤64:=by
   have:=hv.len _ (List.getElem_mem eU);have:=hv.width;omega
  have oX: ∀j (hj:j<d.next[k].length),0≤d.next[k][j]∧d.next[k][j].toNat<cs.length:=fun j hj=>by have:=hv.ok _ (List.getElem_mem eU) _ (List.getElem_mem hj);omega
  refine ai (TO.qa F (ae (aH (TO.qa F (ae (aC (ax (ax ?_))))))))
  refine T.ds [oI z4 25 [(vI d.vars),(vN (cs.getD d.start.toNat 0)),(.slice ob qs.length oc),(.slice fI fs.length fJ)],oI z3 56 [(.slice cb d.next.length cc)],ak cb cc 3 1 (aQ cs)] [(0,0),(1,0),(2,0),(3,0),(4,0),(5,0),(6,0),(7,0)] (dN [0,2,2] [oI z4 25 [(vI d.vars),(vN (cs.getD d.start.toNat 0)),(.slice ob qs.length oc),(.slice fI fs.length fJ)],ak ob oc 56 1 (bO qs),ak fI fJ 4 1 (aU fs),oI z3 56 [(.slice cb d.next.length cc)],ak cb cc 3 1 (aQ cs),oI z2 25 [(vI 0),(vI 0),nS,nS],oI z1 25 [(vI d.vars),(vI d.start),(.slice nb d.next.length nc),(.slice fb d.aA.length fc)]] (bl 3 qs) F F) ?_
  refine am F (aO 1 bT F F F F) (am F (aF F) (am F (cq (i:=k) bT aM F F (cw (mG 2 F))) (am F (bS dh F F (cw (mG 2 F)) eK) (am F (aJ cy F cU F F) (am F (aO 0 dB F F F F) (am F (bL dB F) (am F (bI F F) ?_)))))))
  refine bu ?_
  refine aw F (fun hc=>?_) (fun hc=>?_)
  ·have tH:cs[k]<qs.length:=by omega
   have JL:fH d cs (k+1)=fH d cs k:=by rw[fH,if_pos (by simp[Kj];omega)]
   refine bn ?_
   refine .inl ⟨F,ob,fI,oc,fJ,qs,fs,F,by omega,?_,?_⟩
   ·rw[JL];exact rJ
   ·rw[JL];exact j8
  have Ip: ¬cs[k]<qs.length:=by omega
  have JM:fH d cs (k+1)=((fH d cs k).1++[(dy cs d.next[k]).map fun c:Nat=>(c:Int)],(fH d cs k).2++[d.aA[k]]):=by rw[fH,if_neg (by simp[Kj];omega)];simp[eU,Gw]
  refine aq (ai (TO.qa F (ae (ax (ai (ah F (ad (bL bT F) (ah F (ae (aC (T.dt 3 1 ?_)))))))))))
  refine ck (fun(j:Nat) ρ O=> ∃(kb:Option Addr) (kc:Nat),O=([ak kb kc 3 1 (aQ ((dy cs d.next[k]).take j)),oI z4 25 [(vI d.vars),(vN (cs.getD d.start.toNat 0)),(.slice ob qs.length oc),(.slice fI fs.length fJ)],ak ob oc 56 1 (bO qs),ak fI fJ 4 1 (aU fs),oI z3 56 [(.slice cb d.next.length cc)],ak cb cc 3 1 (aQ cs),oI z2 25 [(vI 0),(vI 0),nS,nS],oI z1 25 [(vI d.vars),(vI d.start),(.slice nb d.next.length nc),(.slice fb d.aA.length fc)]]++(bl 3 qs))∧j≤d.next[k].length∧bZ [(0,(.agg #[(vI d.vars),(vI d.start),(.slice nb d.next.length nc),(.slice fb d.aA.length fc)])),(1,(.pointer (aD z1))),(2,(.pointer (aD z2))),(3,vI 0),(4,(.pointer (aD z3))),(5,vI 0),(6,(.pointer (aD z4))),(7,vI (k:Int)),(8,(.slice vb d.next[k].length vc)),(9,(.slice kb j kc)),(41,(.slice vb d.next[k].length vc)),(42,vI (d.next[k].length:Int)),(43,vI (j:Int))] ρ) (fun j=>d.next[k].length-j) 0 ?_ ?_
  ·exact⟨none,0,F,Nat.zero_le _,(.of F)⟩
  rintro j ρ O ⟨kb,kc,rfl,hj,hH⟩
  obtain⟨eP,rfl⟩:=hH.elim
  clear hH
  refine ai (ad (bI F F) (ae (ax (aw F (fun hc=>?_) (fun hc=>?_)))))
  ·have kv:j<d.next[k].length:=by omega
   have Y8:=(oX j kv).2
   refine aq (ax (aC (ai (ad (cq (i:=j) bT aM F F (aB s1)) (ad (bS dh F F (aB s1) d_) (TO.qa F (ae (aH (ah F (ad (aO 4 bT F F F F) (ah F (ad (xE (i:=d.next[k][j]) bT aM F F (cw (mG 5 F)) (oX j kv).1 (mj▸(oX j kv).2) (by rw[List.length_map];exact(oX j kv).2)) (ad (bS dh F F (cw (mG 5 F)) (eK (oX j kv).2)) (aj F (bN (v:=vN (cs[d.next[k][j].toNat])) bT aM F F F (fun z5=>?_))))))))))))))))
   refine aj F (bX 1 bT bT aM F F F F (by rw[List.length_map,List.length_take,eO];omega) (by decide) (Src.row (j:=0) F (by simp)) (by simp[dD]) (by omega) (by decide) (by decide) (fun z6 AA=>?_))
   refine TO.qa F ?_
   refine bM (O':=([ak z6 AA 3 1 ((aQ ((dy cs d.next[k]).take j))++[vN (cs[d.next[k][j].toNat])]),oI z4 25 [(vI d.vars),(vN (cs.getD d.start.toNat 0)),(.slice ob qs.length oc),(.slice fI fs.length fJ)],ak ob oc 56 1 (bO qs),ak fI fJ 4 1 (aU fs),oI z3 56 [(.slice cb d.next.length cc)],ak cb cc 3 1 (aQ cs),oI z2 25 [(vI 0),(vI 0),nS,nS],oI z1 25 [(vI d.vars),(vI d.start),(.slice nb d.next.length nc),(.slice fb d.aA.length fc)]]++(bl 3 qs))) (ez [1,1,1,1,1,1,1,1] [ak (aD z5) 1 3 1 [vN (cs[d.next[k][j].toNat])],ak z6 AA 3 1 ((aQ ((dy cs d.next[k]).take j))++[vN (cs[d.next[k][j].toNat])]),oI z4 25 [(vI d.vars),(vN (cs.getD d.start.toNat 0)),(.slice ob qs.length oc),(.slice fI fs.length fJ)],ak ob oc 56 1 (bO qs),ak fI fJ 4 1 (aU fs),oI z3 56 [(.slice cb d.next.length cc)],ak cb cc 3 1 (aQ cs),oI z2 25 [(vI 0),(vI 0),nS,nS],oI z1 25 [(vI d.vars),(vI d.start),(.slice nb d.next.length nc),(.slice fb d.aA.length fc)]] (bl 3 qs) F F) ?_
   refine ae (aH (ad (ey F F (by omega)) (ah F (ae ?_))))
   have pX:(dy cs d.next[k]).take (j+1)=(dy cs d.next[k]).take j++[cs[d.next[k][j].toNat]]:=by rw[List.take_succ_eq_append_getElem (by rw[eO];exact kv),wK kv (oX j kv).2]
   exact⟨j+1,by omega,z6,AA,by rw[pX,show aQ ((dy cs d.next[k]).take j++[cs[d.next[k][j].toNat]])=aQ ((dy cs d.next[k]).take j)++[vN (cs[d.next[k][j].toNat])]from List.map_append],by omega,(.of F)⟩
  have MF: ¬j<d.next[k].length:=by omega
  refine bn ?_
  have VS:j=d.next[k].length:=by omega
  have hR:ak kb kc 3 1 (aQ ((dy cs d.next[k]).take j))=Rec.lZ 3 ⟨kb,kc,(dy cs d.next[k]).map fun c:Nat=>(c:Int)⟩:=by
   rw[List.take_of_length_le (by rw[eO];omega)];simp[Rec.lZ,Function.comp_def]
  refine Hb (fun ρ O=> ∃(t_:Option Addr) (ua:Nat) (l8:Option Addr) (mQ:Nat),O=([oI z4 25 [(vI d.vars),(vN (cs.getD d.start.toNat 0)),(.slice t_ (qs.length+1) ua),(.slice l8 (fs.length+1) mQ)],ak t_ ua 56 1 ((bO qs)++[(.slice kb j kc)]),ak l8 mQ 4 1 ((aU fs)++[(.bool d.aA[k])]),oI z3 56 [(.slice cb d.next.length cc)],ak cb cc 3 1 (aQ cs),oI z2 25 [(vI 0),(vI 0),nS,nS],oI z1 25 [(vI d.vars),(vI d.start),(.slice nb d.next.length nc),(.slice fb d.aA.length fc)]]++(bl 3 (qs++[⟨kb,kc,(dy cs d.next[k]).map fun c:Nat=>(c:Int)⟩])))∧bZ [(0,(.agg #[(vI d.vars),(vI d.start),(.slice nb d.next.length nc),(.slice fb d.aA.length fc)])),(1,(.pointer (aD z1))),(2,(.pointer (aD z2))),(3,vI 0),(4,(.pointer (aD z3))),(5,vI 0),(6,(.pointer (aD z4))),(7,vI (k:Int)),(8,(.slice vb d.next[k].length vc)),(9,(.slice kb j kc)),(41,(.slice vb d.next[k].length vc)),(42,vI (d.next[k].length:Int)),(43,vI (j:Int))] ρ) ?_ ?_
  ·refine Fm [oI z4 25 [(vI d.vars),(vN (cs.getD d.start.toNat 0)),(.slice ob qs.length oc),(.slice fI fs.length fJ)],oI z1 25 [(vI d.vars),(vI d.start),(.slice nb d.next.length nc),(.slice fb d.aA.length fc)]] [15,17] 18 mixed F (dN [1,6] [ak kb kc 3 1 (aQ ((dy cs d.next[k]).take j)),oI z4 25 [(vI d.vars),(vN (cs.getD d.start.toNat 0)),(.slice ob qs.length oc),(.slice fI fs.length fJ)],ak ob oc 56 1 (bO qs),ak fI fJ 4 1 (aU fs),oI z3 56 [(.slice cb d.next.length cc)],ak cb cc 3 1 (aQ cs),oI z2 25 [(vI 0),(vI 0),nS,nS],oI z1 25 [(vI d.vars),(vI d.start),(.slice nb d.next.length nc),(.slice fb d.aA.length fc)]] (bl 3 qs) F F) (fun _ _ _ _ h=>h) ?_
   refine fy 0 F (by kernel_rfl) (aJ cy F cU F F) ?_
   refine fy 1 F (by kernel_rfl) (aO 0 dB F F F F) ?_
   refine fy 2 F (by kernel_rfl) (aF F) ?_
   refine fy 5 F (by kernel_rfl) (aJ cy F ce F F) ?_
   refine fy 6 F (by kernel_rfl) (aO 0 dF F F F F) ?_
   refine fy 7 F (by kernel_rfl) (aJ cy F ce F F) ?_
   refine fy 8 F (by kernel_rfl) (aO 1 dF F F F F) ?_
   refine fy 9 F (by kernel_rfl) (aF F) ?_
   refine fy 10 F (by kernel_rfl) (cq (i:=k) dF dc F F (aB h.aA) Gw (by rw[List.length_map];exact Gw)) ?_
   refine fy 11 F (by kernel_rfl) (bS oe F F (aB h.aA) (gu Gw)) ?_
   refine eG [3,12] (by kernel_rfl) F ⟨⟨_,F,F,bN (v:=(.slice kb j kc)) dB bP F F F (fun zA=>⟨.inr (dN [2,7] [ak (aD zA) 1 56 1 [(.slice kb j kc)],ak kb kc 3 1 (aQ ((dy cs d.next[k]).take j)),oI z4 25 [(vI d.vars),(vN (cs.getD d.start.toNat 0)),(.slice ob qs.length oc),(.slice fI fs.length fJ)],ak ob oc 56 1 (bO qs),ak fI fJ 4 1 (aU fs),oI z3 56 [(.slice cb d.next.length cc)],ak cb cc 3 1 (aQ cs),oI z2 25 [(vI 0),(vI 0),nS,nS],oI z1 25 [(vI d.vars),(vI d.start),(.slice nb d.next.length nc),(.slice fb d.aA.length fc)]] (bl 3 qs) F F),?_⟩)⟩,⟨_,F,F,bN (v:=(.bool d.aA[k])) dF dc F F F (fun zB=>⟨.inr (dN [2,7] [ak (aD zB) 1 4 1 [(.bool d.aA[k])],ak kb kc 3 1 (aQ ((dy cs d.next[k]).take j)),oI z4 25 [(vI d.vars),(vN (cs.getD d.start.toNat 0)),(.slice ob qs.length oc),(.slice fI fs.length fJ)],ak ob oc 56 1 (bO qs),ak fI fJ 4 1 (aU fs),oI z3 56 [(.slice cb d.next.length cc)],ak cb cc 3 1 (aQ cs),oI z2 25 [(vI 0),(vI 0),nS,nS],oI z1 25 [(vI d.vars),(vI d.start),(.slice nb d.next.length nc),(.slice fb d.aA.length fc)]] (bl 3 qs) F F),?_⟩)⟩,trivial⟩ (by kernel_rfl)
   ·refine eG [4,12] (by kernel_rfl) F ⟨⟨_,F,F,bX 3 dB dB bP F F F F (by rw[List.length_map];omega) (by decide) (Src.row (j:=0) F (by simp)) (by simp[dD]) (by omega) (by decide) (by decide) (fun t_ ua=>⟨.inr (dN [2,7] [ak (aD zA) 1 56 1 [(.slice kb j kc)],ak kb kc 3 1 (aQ ((dy cs d.next[k]).take j)),oI z4 25 [(vI d.vars),(vN (cs.getD d.start.toNat 0)),(.slice ob qs.length oc),(.slice fI fs.length fJ)],ak t_ ua 56 1 ((bO qs)++[(.slice kb j kc)]),ak fI fJ 4 1 (aU fs),oI z3 56 [(.slice cb d.next.length cc)],ak cb cc 3 1 (aQ cs),oI z2 25 [(vI 0),(vI 0),nS,nS],oI z1 25 [(vI d.vars),(vI d.start),(.slice nb d.next.length nc),(.slice fb d.aA.length fc)]] (bl 3 qs) F F),?_⟩)⟩,⟨_,F,F,bN (v:=(.bool d.aA[k])) dF dc F F F (fun zB=>⟨.inr (dN [3,8] [ak (aD zB) 1 4 1 [(.bool d.aA[k])],ak (aD zA) 1 56 1 [(.slice kb j kc)],ak kb kc 3 1 (aQ ((dy cs d.next[k]).take j)),oI z4 25 [(vI d.vars),(vN (cs.getD d.start.toNat 0)),(.slice ob qs.length oc),(.slice fI fs.length fJ)],ak ob oc 56 1 (bO qs),ak fI fJ 4 1 (aU fs),oI z3 56 [(.slice cb d.next.length cc)],ak cb cc 3 1 (aQ cs),oI z2 25 [(vI 0),(vI 0),nS,nS],oI z1 25 [(vI d.vars),(vI d.start),(.slice nb d.next.length nc),(.slice fb d.aA.length fc)]] (bl 3 qs) F F),?_⟩)⟩,trivial⟩ (by kernel_rfl)
    ·refine jn 14 F (by kernel_rfl) (aJ cy F cU F F) ?_
     refine eG [12] (by kernel_rfl) F ⟨⟨_,F,F,bN (v:=(.bool d.aA[k])) dF dc F F F (fun zB=>⟨.inr (dN [3,8] [ak (aD zB) 1 4 1 [(.bool d.aA[k])],ak (aD zA) 1 56 1 [(.slice kb j kc)],ak kb kc 3 1 (aQ ((dy cs d.next[k]).take j)),oI z4 25 [(vI d.vars),(vN (cs.getD d.start.toNat 0)),(.slice ob qs.length oc),(.slice fI fs.length fJ)],ak t_ ua 56 1 ((bO qs)++[(.slice kb j kc)]),ak fI fJ 4 1 (aU fs),oI z3 56 [(.slice cb d.next.length cc)],ak cb cc 3 1 (aQ cs),oI z2 25 [(vI 0),(vI 0),nS,nS],oI z1 25 [(vI d.vars),(vI d.start),(.slice nb d.next.length nc),(.slice fb d.aA.length fc)]] (bl 3 qs) F F),?_⟩)⟩,trivial⟩ (by kernel_rfl)
     refine eG [13] (by kernel_rfl) F ⟨⟨_,F,F,bX 5 dF dF dc F F F F (by rw[List.length_map];omega) (by decide) (Src.row (j:=0) F (by simp)) (by simp[dD]) (by omega) (by decide) (by decide) (fun l8 mQ=>⟨.inr (dN [3,8] [ak (aD zB) 1 4 1 [(.bool d.aA[k])],ak (aD zA) 1 56 1 [(.slice kb j kc)],ak kb kc 3 1 (aQ ((dy cs d.next[k]).take j)),oI z4 25 [(vI d.vars),(vN (cs.getD d.start.toNat 0)),(.slice ob qs.length oc),(.slice fI fs.length fJ)],ak t_ ua 56 1 ((bO qs)++[(.slice kb j kc)]),ak l8 mQ 4 1 ((aU fs)++[(.bool d.aA[k])]),oI z3 56 [(.slice cb d.next.length cc)],ak cb cc 3 1 (aQ cs),oI z2 25 [(vI 0),(vI 0),nS,nS],oI z1 25 [(vI d.vars),(vI d.start),(.slice nb d.next.length nc),(.slice fb d.aA.length fc)]] (bl 3 qs) F F),?_⟩)⟩,trivial⟩ (by kernel_rfl)
     refine eG [15] (by kernel_rfl) F ⟨⟨_,F,F,bj (vs:=[(.slice t_ (qs.length+1) ua)]) 3 cU F F F F ⟨.inl (by decide),?_⟩⟩,trivial⟩ (by kernel_rfl)
     refine jn 16 F (by kernel_rfl) (aJ cy F ce F F) ?_
     refine eG [17] (by kernel_rfl) F ⟨⟨_,F,F,bj (vs:=[(.slice l8 (fs.length+1) mQ)]) 3 ce F F F F ⟨.inl (by decide),?_⟩⟩,trivial⟩ (by kernel_rfl)
     exact cH (by kernel_rfl) ⟨t_,ua,l8,mQ,F,(.of F)⟩ (by show Sub _ ([ak (aD zB) 1 4 1 [(.bool d.aA[k])],ak (aD zA) 1 56 1 [(.slice kb j kc)],ak kb kc 3 1 (aQ ((dy cs d.next[k]).take j)),oI z4 25 [(vI d.vars),(vN (cs.getD d.start.toNat 0)),(.slice t_ (qs.length+1) ua),(.slice l8 (fs.length+1) mQ)],ak t_ ua 56 1 ((bO qs)++[(.slice kb j kc)]),ak l8 mQ 4 1 ((aU fs)++[(.bool d.aA[k])]),oI z3 56 [(.slice cb d.next.length cc)],ak cb cc 3 1 (aQ cs),oI z2 25 [(vI 0),(vI 0),nS,nS],oI z1 25 [(vI d.vars),(vI d.start),(.slice nb d.next.length nc),(.slice fb d.aA.length fc)]]++bl 3 qs);rw[hR];exact eB [ak (aD zB) 1 4 1 [(.bool d.aA[k])],ak (aD zA) 1 56 1 [(.slice kb j kc)]])
    refine eG [4] (by kernel_rfl) F ⟨⟨_,F,F,bX 4 dB dB bP F F F F (by rw[List.length_map];omega) (by decide) (Src.row (j:=1) F (by simp)) (by simp[dD]) (by omega) (by decide) (by decide) (fun t_ ua=>⟨.inr (dN [3,8] [ak (aD zB) 1 4 1 [(.bool d.aA[k])],ak (aD zA) 1 56 1 [(.slice kb j kc)],ak kb kc 3 1 (aQ ((dy cs d.next[k]).take j)),oI z4 25 [(vI d.vars),(vN (cs.getD d.start.toNat 0)),(.slice ob qs.length oc),(.slice fI fs.length fJ)],ak t_ ua 56 1 ((bO qs)++[(.slice kb j kc)]),ak fI fJ 4 1 (aU fs),oI z3 56 [(.slice cb d.next.length cc)],ak cb cc 3 1 (aQ cs),oI z2 25 [(vI 0),(vI 0),nS,nS],oI z1 25 [(vI d.vars),(vI d.start),(.slice nb d.next.length nc),(.slice fb d.aA.length fc)]] (bl 3 qs) F F),?_⟩)⟩,trivial⟩ (by kernel_rfl)
    refine jn 14 F (by kernel_rfl) (aJ cy F cU F F) ?_
    refine eG [13] (by kernel_rfl) F ⟨⟨_,F,F,bX 5 dF dF dc F F F F (by rw[List.length_map];omega) (by decide) (Src.row (j:=0) F (by simp)) (by simp[dD]) (by omega) (by decide) (by decide) (fun l8 mQ=>⟨.inr (dN [3,8] [ak (aD zB) 1 4 1 [(.bool d.aA[k])],ak (aD zA) 1 56 1 [(.slice kb j kc)],ak kb kc 3 1 (aQ ((dy cs d.next[k]).take j)),oI z4 25 [(vI d.vars),(vN (cs.getD d.start.toNat 0)),(.slice ob qs.length oc),(.slice fI fs.length fJ)],ak t_ ua 56 1 ((bO qs)++[(.slice kb j kc)]),ak l8 mQ 4 1 ((aU fs)++[(.bool d.aA[k])]),oI z3 56 [(.slice cb d.next.length cc)],ak cb cc 3 1 (aQ cs),oI z2 25 [(vI 0),(vI 0),nS,nS],oI z1 25 [(vI d.vars),(vI d.start),(.slice nb d.next.length nc),(.slice fb d.aA.length fc)]] (bl 3 qs) F F),?_⟩)⟩,trivial⟩ (by kernel_rfl)
    refine eG [15] (by kernel_rfl) F ⟨⟨_,F,F,bj (vs:=[(.slice t_ (qs.length+1) ua)]) 3 cU F F F F ⟨.inl (by decide),?_⟩⟩,trivial⟩ (by kernel_rfl)
    refine jn 16 F (by kernel_rfl) (aJ cy F ce F F) ?_
    refine eG [17] (by kernel_rfl) F ⟨⟨_,F,F,bj (vs:=[(.slice l8 (fs.length+1) mQ)]) 3 ce F F F F ⟨.inl (by decide),?_⟩⟩,trivial⟩ (by kernel_rfl)
    exact cH (by kernel_rfl) ⟨t_,ua,l8,mQ,F,(.of F)⟩ (by show Sub _ ([ak (aD zB) 1 4 1 [(.bool d.aA[k])],ak (aD zA) 1 56 1 [(.slice kb j kc)],ak kb kc 3 1 (aQ ((dy cs d.next[k]).take j)),oI z4 25 [(vI d.vars),(vN (cs.getD d.start.toNat 0)),(.slice t_ (qs.length+1) ua),(.slice l8 (fs.length+1) mQ)],ak t_ ua 56 1 ((bO qs)++[(.slice kb j kc)]),ak l8 mQ 4 1 ((aU fs)++[(.bool d.aA[k])]),oI z3 56 [(.slice cb d.next.length cc)],ak cb cc 3 1 (aQ cs),oI z2 25 [(vI 0),(vI 0),nS,nS],oI z1 25 [(vI d.vars),(vI d.start),(.slice nb d.next.length nc),(.slice fb d.aA.length fc)]]++bl 3 qs);rw[hR];exact eB [ak (aD zB) 1 4 1 [(.bool d.aA[k])],ak (aD zA) 1 56 1 [(.slice kb j kc)]])
   refine eG [3] (by kernel_rfl) F ⟨⟨_,F,F,bN (v:=(.slice kb j kc)) dB bP F F F (fun zA=>⟨.inr (dN [3,8] [ak (aD zA) 1 56 1 [(.slice kb j kc)],ak (aD zB) 1 4 1 [(.bool d.aA[k])],ak kb kc 3 1 (aQ ((dy cs d.next[k]).take j)),oI z4 25 [(vI d.vars),(vN (cs.getD d.start.toNat 0)),(.slice ob qs.length oc),(.slice fI fs.length fJ)],ak ob oc 56 1 (bO qs),ak fI fJ 4 1 (aU fs),oI z3 56 [(.slice cb d.next.length cc)],ak cb cc 3 1 (aQ cs),oI z2 25 [(vI 0),(vI 0),nS,nS],oI z1 25 [(vI d.vars),(vI d.start),(.slice nb d.next.length nc),(.slice fb d.aA.length fc)]] (bl 3 qs) F F),?_⟩)⟩,trivial⟩ (by kernel_rfl)
   refine eG [4] (by kernel_rfl) F ⟨⟨_,F,F,bX 4 dB dB bP F F F F (by rw[List.length_map];omega) (by decide) (Src.row (j:=0) F (by simp)) (by simp[dD]) (by omega) (by decide) (by decide) (fun t_ ua=>⟨.inr (dN [3,8] [ak (aD zA) 1 56 1 [(.slice kb j kc)],ak (aD zB) 1 4 1 [(.bool d.aA[k])],ak kb kc 3 1 (aQ ((dy cs d.next[k]).take j)),oI z4 25 [(vI d.vars),(vN (cs.getD d.start.toNat 0)),(.slice ob qs.length oc),(.slice fI fs.length fJ)],ak t_ ua 56 1 ((bO qs)++[(.slice kb j kc)]),ak fI fJ 4 1 (aU fs),oI z3 56 [(.slice cb d.next.length cc)],ak cb cc 3 1 (aQ cs),oI z2 25 [(vI 0),(vI 0),nS,nS],oI z1 25 [(vI d.vars),(vI d.start),(.slice nb d.next.length nc),(.slice fb d.aA.length fc)]] (bl 3 qs) F F),?_⟩)⟩,trivial⟩ (by kernel_rfl)
   refine jn 14 F (by kernel_rfl) (aJ cy F cU F F) ?_
   refine eG [13] (by kernel_rfl) F ⟨⟨_,F,F,bX 5 dF dF dc F F F F (by rw[List.length_map];omega) (by decide) (Src.row (j:=1) F (by simp)) (by simp[dD]) (by omega) (by decide) (by decide) (fun l8 mQ=>⟨.inr (dN [3,8] [ak (aD zA) 1 56 1 [(.slice kb j kc)],ak (aD zB) 1 4 1 [(.bool d.aA[k])],ak kb kc 3 1 (aQ ((dy cs d.next[k]).take j)),oI z4 25 [(vI d.vars),(vN (cs.getD d.start.toNat 0)),(.slice ob qs.length oc),(.slice fI fs.length fJ)],ak t_ ua 56 1 ((bO qs)++[(.slice kb j kc)]),ak l8 mQ 4 1 ((aU fs)++[(.bool d.aA[k])]),oI z3 56 [(.slice cb d.next.length cc)],ak cb cc 3 1 (aQ cs),oI z2 25 [(vI 0),(vI 0),nS,nS],oI z1 25 [(vI d.vars),(vI d.start),(.slice nb d.next.length nc),(.slice fb d.aA.length fc)]] (bl 3 qs) F F),?_⟩)⟩,trivial⟩ (by kernel_rfl)
   refine eG [15] (by kernel_rfl) F ⟨⟨_,F,F,bj (vs:=[(.slice t_ (qs.length+1) ua)]) 3 cU F F F F ⟨.inl (by decide),?_⟩⟩,trivial⟩ (by kernel_rfl)
   refine jn 16 F (by kernel_rfl) (aJ cy F ce F F) ?_
   refine eG [17] (by kernel_rfl) F ⟨⟨_,F,F,bj (vs:=[(.slice l8 (fs.length+1) mQ)]) 3 ce F F F F ⟨.inl (by decide),?_⟩⟩,trivial⟩ (by kernel_rfl)
   exact cH (by kernel_rfl) ⟨t_,ua,l8,mQ,F,(.of F)⟩ (by show Sub _ ([ak (aD zA) 1 56 1 [(.slice kb j kc)],ak (aD zB) 1 4 1 [(.bool d.aA[k])],ak kb kc 3 1 (aQ ((dy cs d.next[k]).take j)),oI z4 25 [(vI d.vars),(vN (cs.getD d.start.toNat 0)),(.slice t_ (qs.length+1) ua),(.slice l8 (fs.length+1) mQ)],ak t_ ua 56 1 ((bO qs)++[(.slice kb j kc)]),ak l8 mQ 4 1 ((aU fs)++[(.bool d.aA[k])]),oI z3 56 [(.slice cb d.next.length cc)],ak cb cc 3 1 (aQ cs),oI z2 25 [(vI 0),(vI 0),nS,nS],oI z1 25 [(vI d.vars),(vI d.start),(.slice nb d.next.length nc),(.slice fb d.aA.length fc)]]++bl 3 qs);rw[hR];exact eB [ak (aD zA) 1 56 1 [(.slice kb j kc)],ak (aD zB) 1 4 1 [(.bool d.aA[k])]])
  rintro ρ O ⟨t_,ua,l8,mQ,rfl,hH⟩
  obtain⟨eP,rfl⟩:=hH.elim
  clear hH
  refine .inl ⟨F,t_,l8,ua,mQ,qs++[⟨kb,kc,(dy cs d.next[k]).map fun c:Nat=>(c:Int)⟩],fs++[d.aA[k]],?_,by omega,?_,?_⟩
  ·simp[Rec.val,eO,VS]
  ·rw[JM,←rJ];simp
  ·rw[JM,j8]
 ·refine⟨none,none,0,0,[],[],?_,Nat.zero_le _,F,F⟩
  rfl
 rintro v O' (⟨ob,fI,oc,fJ,qs,fs,rfl,hk,rJ,j8⟩|hF)
 rotate_left
 ·exact hF.elim
 refine⟨none,_,F,?_⟩
 refine ax ?_
 have wO:qs.length=(quo d cs).next.length:=by rw[show qs.length=(nums qs).length by simp,rJ];rfl
 obtain rfl:fs=(quo d cs).aA:=j8
 rw[wO]
 refine aH (ad (cN 0 cy F aX F F F) ?_)
 have vV:=fun(w1:World) (hI:Inv w ([oI z4 25 [(vI d.vars),(vN (cs.getD d.start.toNat 0)),(.slice ob ((quo d cs).next.length) oc),(.slice fI ((quo d cs).aA.length) fJ)],ak ob oc 56 1 (bO qs),ak fI fJ 4 1 (aU (quo d cs).aA),oI z3 56 [(.slice cb d.next.length cc)],ak cb cc 3 1 (aQ cs),oI z2 25 [(vI 0),(vI 0),nS,nS],oI z1 25 [(vI d.vars),(vI d.start),(.slice nb d.next.length nc),(.slice fb d.aA.length fc)]]++(bl 3 qs)) w1)=>(haveI:=dp hI;Mj w1 (quo d cs) ob fI oc fJ (bO qs) ⟨hI.eV (mG 1 F),(show nums qs=(quo d cs).next from rJ)▸hI.R4 (fun q hq=>List.mem_append_right _ (List.mem_map_of_mem (f:=Rec.lZ 3) hq)),hI.eV (mG 2 F)⟩ U_ Va)
 refine aj F (aI UL (aE vV) F ?_)
 clear vV
 rintro v O' ⟨N,rfl,oF,oG,kI,kJ,JN,rfl,rfl,Em⟩
 refine bM (O':=([ak oF oG 56 1 (bO JN),ak kI kJ 4 1 (aU (cO (quo d cs)).aA),oI z4 25 [(vI d.vars),(vN (cs.getD d.start.toNat 0)),(.slice ob ((quo d cs).next.length) oc),(.slice fI ((quo d cs).aA.length) fJ)],ak ob oc 56 1 (bO qs),ak fI fJ 4 1 (aU (quo d cs).aA),oI z3 56 [(.slice cb d.next.length cc)],ak cb cc 3 1 (aQ cs),oI z2 25 [(vI 0),(vI 0),nS,nS],oI z1 25 [(vI d.vars),(vI d.start),(.slice nb d.next.length nc),(.slice fb d.aA.length fc)]]++((bl 3 JN)++(bl 3 qs)))) (eB []) ?_
 refine ad (bm (vs:=_) F F) (ad (bm (vs:=_) F F) (aj F (bj (vs:=[(vI (cO (quo d cs)).vars),(vI (cO (quo d cs)).start),(.slice oF ((cO (quo d cs)).next.length) oG),(.slice kI ((cO (quo d cs)).aA.length) kJ)]) 7 aX F F F F ?_)))
 refine TO.qa F (ae (az (ao ?_)))
 refine iJ (vI 0) (i:=7) Tryz.results23 cy F aX F F F F ?_
 exact⟨[ak oF oG 56 1 (bO JN),ak kI kJ 4 1 (aU (cO (quo d cs)).aA)]++bl 3 JN,eB ([oI z4 25 [(vI d.vars),(vN (cs.getD d.start.toNat 0)),(.slice ob ((quo d cs).next.length) oc),(.slice fI ((quo d cs).aA.length) fJ)],ak ob oc 56 1 (bO qs),ak fI fJ 4 1 (aU (quo d cs).aA),oI z3 56 [(.slice cb d.next.length cc)],ak cb cc 3 1 (aQ cs),oI z2 25 [(vI (cO (quo d cs)).vars),(vI (cO (quo d cs)).start),(.slice oF ((cO (quo d cs)).next.length) oG),(.slice kI ((cO (quo d cs)).aA.length) kJ)],oI z1 25 [(vI d.vars),(vI d.start),(.slice nb d.next.length nc),(.slice fb d.aA.length fc)]]++bl 3 qs),oF,oG,kI,kJ,JN,F,F,Em⟩
end Go.Proofs.YtgdbfideeeegmaaGreatDoor

namespace Go.Proofs.YtgdbfideeeegmaaGreatDoor
open Go.Lx Go.RowKit _root_.Go.Proofs.Tryz
end Go.Proofs.YtgdbfideeeegmaaGreatDoor

namespace Go.Proofs.YtgdbfideeeegmaaGreatDoor
open Go.Lx Go.RowKit _root_.Go.Proofs.Tryz
theorem KB (w:World) [cG Tryz.prog w] (d:bY) (nb fb:Option Addr) (nc fc:Nat) (vs:List Value) (h:eA w d nb vs fb) (hv:Valid d) (hn:d.next.length<10000) (k:Int):
  bs Tryz.prog 136 [.agg (cB d nb nc fb fc).toArray,vI k] w fun v N=> ∃b c qs,v=.slice b d.next.length c∧N=ak b c 23 1 (fh qs)::eW 4 qs∧nZ d (min k.toNat d.next.length) d.next.length qs:=by
 refine av func136 F ntmps136 F ?_
 have hb:d.next.length<9223372036854775807:=by omega
 have ut:=h.rows.1
 have qp:=hv.fin
 have Sb:=hv.width
 refine ai (aj F (cL (cs:=[(vI d.vars),(vI d.start),(.slice nb d.next.length nc),(.slice fb d.aA.length fc)]) F F (fun z1=>?_)))
 refine TO.qa F (ae (ai (ad (aJ underlying25 F cU F F) (ad (aO 0 underlying22 F F F F) (ad (bL underlying22 F) (TO.qa F (ae (ai (ah F (aj F (bV (m:=d.next.length) underlying91 ce F F (by omega) (by omega) (fun z2=>?_))))))))))))
 refine TO.qa F (ae (ax (ai (TO.qa F (ae (aC ?_))))))
 refine ck (fun(s:Nat) ρ O=> ∃(qs:List jY),O=([ak (aD z2) d.next.length 23 1 ((fh qs)++(List.replicate (d.next.length-s) nS)),oI z1 25 [(vI d.vars),(vI d.start),(.slice nb d.next.length nc),(.slice fb d.aA.length fc)]]++(eW 4 qs))∧s≤d.next.length∧nZ d 0 s qs∧bZ [(0,(.agg #[(vI d.vars),(vI d.start),(.slice nb d.next.length nc),(.slice fb d.aA.length fc)])),(1,vI k),(2,(.pointer (aD z1))),(4,nS),(5,vI (d.next.length:Int)),(6,(.slice (aD z2) d.next.length d.next.length)),(7,vI (s:Int))] ρ) (fun s=>d.next.length-s) 0 ?_ ?_
 ·exact⟨[],F,Nat.zero_le _,F,(.of F)⟩
 rintro s ρ O ⟨qs,rfl,hs,hM,hH⟩
 obtain⟨eP,rfl⟩:=hH.elim
 clear hH
 refine ax (ai (ah F (ah F (ad (bI F F) (ae (aw F (fun hc=>?_) (fun hc=>?_)))))))
 ·have jA:s<d.next.length:=by omega
  have wO:=hM.len
  have Vr:s<d.aA.length:=by omega
  refine aq (ax (aC (ai (ah F (ah F (ah F (aj F (bV (m:=d.next.length) underlying23 dc F F (by omega) (by omega) (fun zX=>?_)))))))))
  refine ad (cq (i:=s) underlying91 ce F F (cw (mG 1 F)) jA (by simp;omega)) (aj F (jW (j:=s) (v:=(.slice (aD zX) d.next.length d.next.length)) (vs:=[(.slice (aD zX) d.next.length d.next.length)]) (cs:=(fh qs)++(List.replicate (d.next.length-s) nS)) 1 ce F F F F F (by simp) F (by first|(simp;omega)|(simp_all;omega)) ?_))
  refine bM (O':=([ak (aD zX) d.next.length 4 1 (List.replicate d.next.length (.bool false)),ak (aD z2) d.next.length 23 1 ((fh qs)++((.slice (aD zX) d.next.length d.next.length)::(List.replicate (d.next.length-(s+1)) nS))),oI z1 25 [(vI d.vars),(vI d.start),(.slice nb d.next.length nc),(.slice fb d.aA.length fc)]]++(eW 4 qs))) (by rw[show dl ((fh qs)++(List.replicate (d.next.length-s) nS)) s [(.slice (aD zX) d.next.length d.next.length)]=(fh qs)++((.slice (aD zX) d.next.length d.next.length)::(List.replicate (d.next.length-(s+1)) nS))from by rw[←As (by simpa using wO) jA];simp[dl]];exact a_ (List.Sublist.refl _)) ?_
  refine ae (ai (TO.qa F (ae (aC ?_))))
  refine ck (fun(t:Nat) ρ O=>O=([ak (aD zX) d.next.length 4 1 (aU (gY (jv d 0 s) d.next.length t)),ak (aD z2) d.next.length 23 1 ((fh qs)++((.slice (aD zX) d.next.length d.next.length)::(List.replicate (d.next.length-(s+1)) nS))),oI z1 25 [(vI d.vars),(vI d.start),(.slice nb d.next.length nc),(.slice fb d.aA.length fc)]]++(eW 4 qs))∧t≤d.next.length∧bZ [(0,(.agg #[(vI d.vars),(vI d.start),(.slice nb d.next.length nc),(.slice fb d.aA.length fc)])),(1,vI k),(2,(.pointer (aD z1))),(4,nS),(5,vI (d.next.length:Int)),(6,(.slice (aD z2) d.next.length d.next.length)),(7,vI (s:Int)),(8,vI (t:Int))] ρ) (fun t=>d.next.length-t) 0 ?_ ?_
  ·exact⟨by rw[vj];simp,Nat.zero_le _,(.of F)⟩
  rintro t ρ O ⟨rfl,ht,hH⟩
  obtain⟨eP,rfl⟩:=hH.elim
  clear hH
  refine ax (ai (ah F (ah F (ad (bI F F) (ae (aw F (fun hc=>?_) (fun hc=>?_)))))))
  ·have vk:t<d.next.length:=by omega
   have Vs:t<d.aA.length:=by omega
   have Z5:(d.aA[s] !=d.aA[t])=jv d 0 s t:=by simp[jv,dK,Vr,Vs]
   refine aq (ax (aC ?_))
   refine dO [(0,0),(1,0),(2,0),(3,0),(4,0),(5,0),(6,0),(7,0),(8,0),(9,0),(10,0),(11,0),(12,0),(13,0),(14,0),(15,0),(16,0),(17,2)] ?_
   refine am F (aF F) (am F (aF F) (am F (cq (i:=s) underlying91 ce F F (cw (mG 1 F)) jA (by simp;omega)) (am F (bS underlying23 F F (cw (mG 1 F)) (vl (by simpa using wO))) (am F (aF F) (am F (aJ underlying25 F ce F F) (am F (aO 2 underlying23 F F F F) (am F (aF F) (am F (cq (i:=s) underlying23 dc F F (aB h.aA) Vr (by rw[List.length_map];exact Vr)) (am F (bS underlying4 F F (aB h.aA) (gu Vr)) (am F (aJ underlying25 F ce F F) (am F (aO 2 underlying23 F F F F) (am F (aF F) (am F (cq (i:=t) underlying23 dc F F (aB h.aA) Vs (by rw[List.length_map];exact Vs)) (am F (bS underlying4 F F (aB h.aA) (gu Vs)) (am F (Ct underlying4 F F) (am F (cq (i:=t) underlying23 dc F F (cw (mG 0 F)) vk (by rw[List.length_map,fz];exact vk)) ?_))))))))))))))))
   refine bq F F (jW (j:=t) (v:=.bool (d.aA[s] !=d.aA[t])) (vs:=[(.bool (d.aA[s] !=d.aA[t]))]) (cs:=aU (gY (jv d 0 s) d.next.length t)) 0 dc F F F F F (by simp) F (by rw[List.length_map,fz];exact vk) ?_)
   refine de (O':=([ak (aD zX) d.next.length 4 1 (aU (gY (jv d 0 s) d.next.length (t+1))),ak (aD z2) d.next.length 23 1 ((fh qs)++((.slice (aD zX) d.next.length d.next.length)::(List.replicate (d.next.length-(s+1)) nS))),oI z1 25 [(vI d.vars),(vI d.start),(.slice nb d.next.length nc),(.slice fb d.aA.length fc)]]++(eW 4 qs))) (by rw[show dl (aU (gY (jv d 0 s) d.next.length t)) t [(.bool (d.aA[s] !=d.aA[t]))]=aU (gY (jv d 0 s) d.next.length (t+1))from by rw[←xG vk Z5];simp[dl]];exact a_ (List.Sublist.refl _)) ?_
   refine bu ?_
   refine aH (ah F (ad (ey F F (by omega)) (TO.qa F (ae ?_))))
   exact⟨t+1,by omega,F,by omega,(.of F)⟩
  have Sc: ¬t<d.next.length:=by omega
  refine bn ?_
  refine aH (ah F (ad (ey F F (by omega)) (TO.qa F ?_)))
  have hR:ak (aD zX) d.next.length 4 1 (aU (gY (jv d 0 s) d.next.length t))=jY.lZ 4 ⟨(aD zX),d.next.length,kN d 0 s⟩:=by
   rw[show t=d.next.length by omega,vm];rfl
  refine bM (O':=[ak (aD z2) d.next.length 23 1 ((fh qs)++((.slice (aD zX) d.next.length d.next.length)::(List.replicate (d.next.length-(s+1)) nS))),oI z1 25 [(vI d.vars),(vI d.start),(.slice nb d.next.length nc),(.slice fb d.aA.length fc)]]++(eW 4 (qs++[⟨(aD zX),d.next.length,kN d 0 s⟩]))) (by rw[hR];exact Sub.ri [] (by intro a;simp only[bl,eW,oI,List.set_cons_zero,List.set_cons_succ,dl,List.cons_append,List.nil_append,List.append_nil,List.append_assoc,List.map_append,List.map_cons,List.map_nil,gA,gX,ml,vI,nS,aD]<;>omega)) ?_
  refine ae ?_
  exact⟨s+1,by omega,qs++[⟨(aD zX),d.next.length,kN d 0 s⟩],by simp[jY.val,km],by omega,hM.snoc,(.of F)⟩
 have nW: ¬s<d.next.length:=by omega
 refine bn ?_
 refine ax (ai (TO.qa F (ae (aC ?_))))
 have B4:s=d.next.length:=by omega
 have Wu:(fh qs)++(List.replicate (d.next.length-s) nS)=fh qs:=by rw[show d.next.length-s=0 by omega];simp
 rw[Wu]
 rw[B4]at hM
 refine ck (fun(r:Nat) ρ O=> ∃(ob:Option Addr) (oc:Nat) (qs:List jY),O=([ak ob oc 23 1 (fh qs),oI z1 25 [(vI d.vars),(vI d.start),(.slice nb d.next.length nc),(.slice fb d.aA.length fc)]]++(eW 4 qs))∧r≤k.toNat∧r≤d.next.length∧nZ d r d.next.length qs∧bZ [(0,(.agg #[(vI d.vars),(vI d.start),(.slice nb d.next.length nc),(.slice fb d.aA.length fc)])),(1,vI k),(2,(.pointer (aD z1))),(4,nS),(5,vI (d.next.length:Int)),(6,(.slice ob d.next.length oc)),(9,vI (r:Int))] ρ) (fun r=>d.next.length-r) 0 ?_ ?_
 ·exact⟨_,_,qs,F,Nat.zero_le _,Nat.zero_le _,hM,(.of F)⟩
 rintro r ρ O ⟨ob,oc,qs,rfl,Ra,MP,hM,hH⟩
 obtain⟨eP,rfl⟩:=hH.elim
 clear hH
 refine ax (ai (ah F (ah F ?_)))
 by_cases Vm:(r:Int)<k
 ·refine ad (ar (bI F F) (decide_eq_true Vm)) ?_
  refine ah F (ap F F (aF F) (ap F F (aF F) (ap F F (bI F F) (ad (bt F F) (ae (aw F (fun hc=>?_) (fun hc=>?_)))))))
  ·have Au:r<d.next.length:=by omega
   refine aq (ax (aC (ai (ah F (aj F (bV (m:=d.next.length) underlying91 ce F F (by omega) (by omega) (fun z3=>?_)))))))
   refine TO.qa F (ae (ax (ai (TO.qa F (ae (aC ?_))))))
   refine ck (fun(s:Nat) ρ O=> ∃(ps:List jY),O=([ak (aD z3) d.next.length 23 1 ((fh ps)++(List.replicate (d.next.length-s) nS)),ak ob oc 23 1 (fh qs),oI z1 25 [(vI d.vars),(vI d.start),(.slice nb d.next.length nc),(.slice fb d.aA.length fc)]]++(eW 4 ps++eW 4 qs))∧s≤d.next.length∧nZ d (r+1) s ps∧bZ [(0,(.agg #[(vI d.vars),(vI d.start),(.slice nb d.next.length nc),(.slice fb d.aA.length fc)])),(1,vI k),(2,(.pointer (aD z1))),(4,nS),(5,vI (d.next.length:Int)),(6,(.slice ob d.next.length oc)),(9,vI (r:Int)),(10,(.slice (aD z3) d.next.length d.next.length)),(11,vI (s:Int))] ρ) (fun s=>d.next.length-s) 0 ?_ ?_
   ·exact⟨[],F,Nat.zero_le _,F,(.of F)⟩
   rintro s ρ O ⟨ps,rfl,hs,Wv,hH⟩
   obtain⟨eP,rfl⟩:=hH.elim
   clear hH
   refine ax (ai (ah F (ah F (ad (bI F F) (ae (aw F (fun hc=>?_) (fun hc=>?_)))))))
   ·have jo:s<d.next.length:=by omega
    have wO:=Wv.len
    obtain⟨qa,ma,ga,la,ea⟩:=hM.get jo
    obtain⟨Mw,Mx,g1,s1⟩:=h.rows.get jo
    have uw:d.next[s].length=2^d.vars.toNat:=hv.len _ (List.getElem_mem jo)
    refine aq (ax (aC (ai (ah F (ah F (ah F (aj F (bV (m:=d.next.length) underlying23 dc F F (by omega) (by omega) (fun zX=>?_)))))))))
    refine ad (cq (i:=s) underlying91 ce F F (cw (mG 1 F)) jo (by simp;omega)) (aj F (jW (j:=s) (v:=(.slice (aD zX) d.next.length d.next.length)) (vs:=[(.slice (aD zX) d.next.length d.next.length)]) (cs:=(fh ps)++(List.replicate (d.next.length-s) nS)) 1 ce F F F F F (by simp) F (by first|(simp;omega)|(simp_all;omega)) ?_))
    refine bM (O':=([ak (aD zX) d.next.length 4 1 (List.replicate d.next.length (.bool false)),ak (aD z3) d.next.length 23 1 ((fh ps)++((.slice (aD zX) d.next.length d.next.length)::(List.replicate (d.next.length-(s+1)) nS))),ak ob oc 23 1 (fh qs),oI z1 25 [(vI d.vars),(vI d.start),(.slice nb d.next.length nc),(.slice fb d.aA.length fc)]]++(eW 4 ps++eW 4 qs))) (by rw[show dl ((fh ps)++(List.replicate (d.next.length-s) nS)) s [(.slice (aD zX) d.next.length d.next.length)]=(fh ps)++((.slice (aD zX) d.next.length d.next.length)::(List.replicate (d.next.length-(s+1)) nS))from by rw[←As (by simpa using wO) jo];simp[dl]];exact a_ (List.Sublist.refl _)) ?_
    refine ae (ai (TO.qa F (ae (aC ?_))))
    refine ck (fun(t:Nat) ρ O=>O=([ak (aD zX) d.next.length 4 1 (aU (gY (jv d (r+1) s) d.next.length t)),ak (aD z3) d.next.length 23 1 ((fh ps)++((.slice (aD zX) d.next.length d.next.length)::(List.replicate (d.next.length-(s+1)) nS))),ak ob oc 23 1 (fh qs),oI z1 25 [(vI d.vars),(vI d.start),(.slice nb d.next.length nc),(.slice fb d.aA.length fc)]]++(eW 4 ps++eW 4 qs))∧t≤d.next.length∧bZ [(0,(.agg #[(vI d.vars),(vI d.start),(.slice nb d.next.length nc),(.slice fb d.aA.length fc)])),(1,vI k),(2,(.pointer (aD z1))),(4,nS),(5,vI (d.next.length:Int)),(6,(.slice ob d.next.length oc)),(9,vI (r:Int)),(10,(.slice (aD z3) d.next.length d.next.length)),(11,vI (s:Int)),(12,vI (t:Int))] ρ) (fun t=>d.next.length-t) 0 ?_ ?_
    ·exact⟨by rw[vj];simp,Nat.zero_le _,(.of F)⟩
    rintro t ρ O ⟨rfl,ht,hH⟩
    obtain⟨eP,rfl⟩:=hH.elim
    clear hH
    refine ax (ai (ah F (ah F (ad (bI F F) (ae (aw F (fun hc=>?_) (fun hc=>?_)))))))
    ·have lD:t<d.next.length:=by omega
     obtain⟨Yl,Ym,g2,s2⟩:=h.rows.get lD
     have KC:d.next[t].length=2^d.vars.toNat:=hv.len _ (List.getElem_mem lD)
     refine aq (ax (aC (ax ?_)))
     refine dO [(0,0),(1,0),(2,0),(3,0),(4,0),(5,0),(6,0),(7,0),(8,0),(9,0),(10,0),(11,0),(12,0),(13,2)] ?_
     refine am F (aF F) (am F (aF F) (am F (cq (i:=s) underlying91 ce F F (cw (mG 1 F)) jo (by simp;omega)) (am F (bS underlying23 F F (cw (mG 1 F)) (vl (by simpa using wO))) (am F (aF F) (am F (aF F) (am F (aF F) (am F (cq (i:=s) underlying91 ce F F (cw (mG 2 F)) jo (by rw[List.length_map,hM.len];exact jo)) (am F (bS underlying23 F F (cw (mG 2 F)) ga) (am F (aF F) (am F (cq (i:=t) underlying23 dc F F (fun w hI=>hI.eV (T:=4) (k:=1) (List.mem_append_right _ (List.mem_append_right _ (List.mem_map_of_mem (f:=jY.lZ 4) ma)))) lD (la▸lD)) (am F (bS underlying4 F F (fun w hI=>hI.eV (T:=4) (k:=1) (List.mem_append_right _ (List.mem_append_right _ (List.mem_map_of_mem (f:=jY.lZ 4) ma)))) (ea t lD)) (am F (cq (i:=t) underlying23 dc F F (cw (mG 0 F)) lD (by rw[List.length_map,fz];exact lD)) ?_))))))))))))
     refine bq F F (jW (j:=t) (v:=.bool (jv d r s t)) (vs:=[(.bool (jv d r s t))]) (cs:=aU (gY (jv d (r+1) s) d.next.length t)) 0 dc F F F F F (by simp) F (by rw[List.length_map,fz];exact lD) ?_)
     refine de (O':=([ak (aD zX) d.next.length 4 1 (aU ((gY (jv d (r+1) s) d.next.length t).set t (jv d r s t))),ak (aD z3) d.next.length 23 1 ((fh ps)++((.slice (aD zX) d.next.length d.next.length)::(List.replicate (d.next.length-(s+1)) nS))),ak ob oc 23 1 (fh qs),oI z1 25 [(vI d.vars),(vI d.start),(.slice nb d.next.length nc),(.slice fb d.aA.length fc)]]++(eW 4 ps++eW 4 qs))) (by rw[show dl (aU (gY (jv d (r+1) s) d.next.length t)) t [(.bool (jv d r s t))]=aU ((gY (jv d (r+1) s) d.next.length t).set t (jv d r s t))from by simp[dl]];exact a_ (List.Sublist.refl _)) ?_
     refine bu ?_
     refine ai (TO.qa F (ae (aC ?_)))
     refine ck (fun(x:Nat) ρ O=>O=([ak (aD zX) d.next.length 4 1 (aU ((gY (jv d (r+1) s) d.next.length t).set t (jv d r s t||(List.range x).any fun x=>jv d r (dJ d s x) (dJ d t x)))),ak (aD z3) d.next.length 23 1 ((fh ps)++((.slice (aD zX) d.next.length d.next.length)::(List.replicate (d.next.length-(s+1)) nS))),ak ob oc 23 1 (fh qs),oI z1 25 [(vI d.vars),(vI d.start),(.slice nb d.next.length nc),(.slice fb d.aA.length fc)]]++(eW 4 ps++eW 4 qs))∧x≤2^d.vars.toNat∧bZ [(0,(.agg #[(vI d.vars),(vI d.start),(.slice nb d.next.length nc),(.slice fb d.aA.length fc)])),(1,vI k),(2,(.pointer (aD z1))),(4,nS),(5,vI (d.next.length:Int)),(6,(.slice ob d.next.length oc)),(9,vI (r:Int)),(10,(.slice (aD z3) d.next.length d.next.length)),(11,vI (s:Int)),(12,vI (t:Int)),(13,vI (x:Int))] ρ) (fun x=>2^d.vars.toNat-x) 0 ?_ ?_
     ·exact⟨by simp,Nat.zero_le _,(.of F)⟩
     rintro x ρ O ⟨rfl,hx,hH⟩
     obtain⟨eP,rfl⟩:=hH.elim
     clear hH
     refine ax (ai (ah F (ad (aJ underlying25 F cU F F) (ad (aO 3 underlying22 F F F F) (ah F (ad (cq (i:=s) underlying22 bP F F (aB h.outer) jo (ut▸jo)) (ad (bS underlying56 F F (aB h.outer) g1) (ad (bL underlying56 F) (ad (bI F F) (ae (aw F (fun hc=>?_) (fun hc=>?_))))))))))))
     ·have xH:x<d.next[s].length:=by omega
      have ux:x<2^d.vars.toNat:=by omega
      obtain⟨Rb,_,Cz,xI⟩:=hv.fB jo ux
      obtain⟨Rc,_,Ww,Fe⟩:=hv.fB lD ux
      have xI:(ints d.next[s])[x]? =some (vN (dJ d s x)):=by rw[d_ Cz,xI]
      have Fe:(ints d.next[t])[x]? =some (vN (dJ d t x)):=by rw[d_ Ww,Fe]
      obtain⟨qc,mc,gc,lc,ec⟩:=hM.get Rb
      refine aq (ax (aC (ax ?_)))
      refine dO [(0,0),(1,0),(2,0),(3,0),(4,0),(5,0),(6,0),(7,0),(8,0),(9,0),(10,0),(11,0),(12,0),(13,0),(14,0),(15,0),(16,0),(17,0),(18,0),(19,0),(20,0)] ?_
      refine am F (aF F) (am F (aJ underlying25 F cU F F) (am F (aO 3 underlying22 F F F F) (am F (aF F) (am F (cq (i:=s) underlying22 bP F F (aB h.outer) jo (ut▸jo)) (am F (bS underlying56 F F (aB h.outer) g1) (am F (aF F) (am F (cq (i:=x) underlying56 aM F F (aB s1) (by rw[uw];exact ux) (by rw[List.length_map,uw];exact ux)) (am F (bS underlying3 F F (aB s1) xI) (am F (cq (i:=(dJ d s x)) underlying91 ce F F (cw (mG 2 F)) Rb (by rw[List.length_map,hM.len];exact Rb)) (am F (bS underlying23 F F (cw (mG 2 F)) gc) (am F (aJ underlying25 F cU F F) (am F (aO 3 underlying22 F F F F) (am F (aF F) (am F (cq (i:=t) underlying22 bP F F (aB h.outer) lD (ut▸lD)) (am F (bS underlying56 F F (aB h.outer) g2) (am F (aF F) (am F (cq (i:=x) underlying56 aM F F (aB s2) (by rw[KC];exact ux) (by rw[List.length_map,KC];exact ux)) (am F (bS underlying3 F F (aB s2) Fe) (am F (cq (i:=(dJ d t x)) underlying23 dc F F (fun w hI=>hI.eV (T:=4) (k:=1) (List.mem_append_right _ (List.mem_append_right _ (List.mem_map_of_mem (f:=jY.lZ 4) mc)))) Rc (lc▸Rc)) (am F (bS underlying4 F F (fun w hI=>hI.eV (T:=4) (k:=1) (List.mem_append_right _ (List.mem_append_right _ (List.mem_map_of_mem (f:=jY.lZ 4) mc)))) (ec _ Rc)) ?_))))))))))))))))))))
      refine bu ?_
      refine T.cond F (fun hc=>?_) (fun hc=>?_)
      ·refine aH ?_
       refine ah F (ah F (ad (cq (i:=s) underlying91 ce F F (cw (mG 1 F)) jo (by simp;omega)) (ad (bS underlying23 F F (cw (mG 1 F)) (vl (by simpa using wO))) (ah F (ad (cq (i:=t) underlying23 dc F F (cw (mG 0 F)) lD (by rw[List.length_map,List.length_set,fz];exact lD)) (aj F (jW (j:=t) (v:=.bool true) (vs:=[(.bool true)]) (cs:=aU ((gY (jv d (r+1) s) d.next.length t).set t (jv d r s t||(List.range x).any fun x=>jv d r (dJ d s x) (dJ d t x)))) 0 dc F F F F F (by simp) F (by rw[List.length_map,List.length_set,fz];exact lD) ?_)))))))
       refine bM (O':=([ak (aD zX) d.next.length 4 1 (aU ((gY (jv d (r+1) s) d.next.length t).set t true)),ak (aD z3) d.next.length 23 1 ((fh ps)++((.slice (aD zX) d.next.length d.next.length)::(List.replicate (d.next.length-(s+1)) nS))),ak ob oc 23 1 (fh qs),oI z1 25 [(vI d.vars),(vI d.start),(.slice nb d.next.length nc),(.slice fb d.aA.length fc)]]++(eW 4 ps++eW 4 qs))) (by rw[show dl (aU ((gY (jv d (r+1) s) d.next.length t).set t (jv d r s t||(List.range x).any fun x=>jv d r (dJ d s x) (dJ d t x)))) t [(.bool true)]=aU ((gY (jv d (r+1) s) d.next.length t).set t true)from by simp[dl]];exact a_ (List.Sublist.refl _)) ?_
       refine ae (aH (ah F (ad (ey F F (by omega)) (TO.qa F (ae ?_)))))
       have Wx:(jv d r s t||(List.range (x+1)).any fun x=>jv d r (dJ d s x) (dJ d t x))=true:=by rw[Av,hc];simp
       exact⟨x+1,by omega,by rw[Wx],by omega,(.of F)⟩
      refine aq (aH (ah F (ad (ey F F (by omega)) (TO.qa F (ae ?_)))))
      have Wx:(jv d r s t||(List.range (x+1)).any fun x=>jv d r (dJ d s x) (dJ d t x))=(jv d r s t||(List.range x).any fun x=>jv d r (dJ d s x) (dJ d t x)):=by rw[Av,hc];simp
      exact⟨x+1,by omega,by rw[Wx],by omega,(.of F)⟩
     have Sd: ¬x<d.next[s].length:=by omega
     refine bn ?_
     refine aH (ah F (ad (ey F F (by omega)) (TO.qa F (ae ?_))))
     have wX:x=cJ d:=by unfold cJ;omega
     have KD:(jv d r s t||(List.range x).any fun x=>jv d r (dJ d s x) (dJ d t x))=jv d (r+1) s t:=by rw[wX];rfl
     exact⟨t+1,by omega,by rw[KD,xG lD F],by omega,(.of F)⟩
    have Yn: ¬t<d.next.length:=by omega
    refine bn ?_
    refine aH (ah F (ad (ey F F (by omega)) (TO.qa F ?_)))
    have hR:ak (aD zX) d.next.length 4 1 (aU (gY (jv d (r+1) s) d.next.length t))=jY.lZ 4 ⟨(aD zX),d.next.length,kN d (r+1) s⟩:=by
     rw[show t=d.next.length by omega,vm];rfl
    refine bM (O':=[ak (aD z3) d.next.length 23 1 ((fh ps)++((.slice (aD zX) d.next.length d.next.length)::(List.replicate (d.next.length-(s+1)) nS))),ak ob oc 23 1 (fh qs),oI z1 25 [(vI d.vars),(vI d.start),(.slice nb d.next.length nc),(.slice fb d.aA.length fc)]]++(eW 4 (ps++[⟨(aD zX),d.next.length,kN d (r+1) s⟩])++eW 4 qs)) (by rw[hR];exact Sub.ri [] (by intro a;simp only[bl,eW,oI,List.set_cons_zero,List.set_cons_succ,dl,List.cons_append,List.nil_append,List.append_nil,List.append_assoc,List.map_append,List.map_cons,List.map_nil,gA,gX,ml,vI,nS,aD]<;>omega)) ?_
    refine ae ?_
    exact⟨s+1,by omega,ps++[⟨(aD zX),d.next.length,kN d (r+1) s⟩],by simp[jY.val,km],by omega,Wv.snoc,(.of F)⟩
   have Se: ¬s<d.next.length:=by omega
   refine bn ?_
   refine aH (ah F (TO.qa F (ae (aH (ah F (ad (ey F F (by omega)) (TO.qa F ?_)))))))
   have Wy:s=d.next.length:=by omega
   have Wu:(fh ps)++(List.replicate (d.next.length-s) nS)=fh ps:=by rw[show d.next.length-s=0 by omega];simp
   rw[Wu]
   refine bM (O':=[ak (aD z3) d.next.length 23 1 (fh ps),oI z1 25 [(vI d.vars),(vI d.start),(.slice nb d.next.length nc),(.slice fb d.aA.length fc)]]++(eW 4 ps)) (Sub.ri ([ak ob oc 23 1 (fh qs)]++eW 4 qs) (by intro a;simp only[bl,eW,oI,List.set_cons_zero,List.set_cons_succ,dl,List.cons_append,List.nil_append,List.append_nil,List.append_assoc,List.map_append,List.map_cons,List.map_nil,gA,gX,ml,vI,nS,aD]<;>omega)) ?_
   refine ae ?_
   exact⟨r+1,by omega,(aD z3),d.next.length,ps,F,by omega,by omega,Wy▸Wv,(.of F)⟩
  have Sf: ¬r<d.next.length:=by omega
  refine bn ?_
  refine ai (ah F (TO.qa F (ae (az (ao ?_)))))
  refine aG (.slice ob d.next.length oc) Tryz.results136 F ?_
  have Wz:r=min k.toNat d.next.length:=by omega
  exact⟨ak ob oc 23 1 (fh qs)::eW 4 qs,Sub.ri [oI z1 25 [(vI d.vars),(vI d.start),(.slice nb d.next.length nc),(.slice fb d.aA.length fc)]] (by intro a;simp only[bl,eW,oI,List.set_cons_zero,List.set_cons_succ,dl,List.cons_append,List.nil_append,List.append_nil,List.append_assoc,List.map_append,List.map_cons,List.map_nil,gA,gX,ml,vI,nS,aD]<;>omega),ob,oc,qs,F,F,Wz▸hM⟩
 refine ad (ar (bI F F) (decide_eq_false Vm)) (ah F (ay F F (ay F F (ay F F (ad (aZ F F) (ae (aL F ?_)))))))
 refine bn ?_
 refine ai (ah F (TO.qa F (ae (az (ao ?_)))))
 refine aG (.slice ob d.next.length oc) Tryz.results136 F ?_
 have Wz:r=min k.toNat d.next.length:=by omega
 exact⟨ak ob oc 23 1 (fh qs)::eW 4 qs,Sub.ri [oI z1 25 [(vI d.vars),(vI d.start),(.slice nb d.next.length nc),(.slice fb d.aA.length fc)]] (by intro a;simp only[bl,eW,oI,List.set_cons_zero,List.set_cons_succ,dl,List.cons_append,List.nil_append,List.append_nil,List.append_assoc,List.map_append,List.map_cons,List.map_nil,gA,gX,ml,vI,nS,aD]<;>omega),ob,oc,qs,F,F,Wz▸hM⟩
end Go.Proofs.YtgdbfideeeegmaaGreatDoor

namespace Go.Proofs.YtgdbfideeeegmaaGreatDoor
open Go.Lx Go.RowKit _root_.Go.Proofs.Tryz
theorem Dx (w:World) [cG Tryz.prog w] (d:bY) (nb fb:Option Addr) (nc fc:Nat) (vs:List Value) (h:eA w d nb vs fb) (hb:d.next.length<9223372036854775807) (jy: ∀r∈d.next,r.length<9223372036854775807) (j6:d.aA.length<9223372036854775807) (he:bW d≠0) (k:Int):
  bs Tryz.prog 97 [.agg (cB d nb nc fb fc).toArray,vI k] w fun v N=>v=.tuple #[nS,vI (bW d:Int)]∧N=[]:=by
 refine av func97 F ntmps97 F ?_
 refine ai (aj F (cL (cs:=[(vI d.vars),(vI d.start),(.slice nb d.next.length nc),(.slice fb d.aA.length fc)]) F F (fun b1=>?_)))
 refine TO.qa F (TO.qa F (ae (ai (ad (cN 0 underlying25 F aX F F F) ?_))))
 have rS:=fun(w1:World) (hI:Inv w [oI b1 25 [(vI d.vars),(vI d.start),(.slice nb d.next.length nc),(.slice fb d.aA.length fc)]] w1)=>(haveI:=Inv.tab (P:=Tryz.prog) hI;rp w1 d nb fb nc fc vs (hI.u4 h) hb jy j6)
 refine aj F (aI Ew (aE rS) F ?_)
 clear rS
 rintro v O' ⟨N,rfl,rfl,rfl⟩
 refine TO.qa F (ae (ax (ai (ah F (ad (ar (cS F F) (decide_eq_true (by omega))) (ae ?_))))))
 refine bg F ?_
 refine ai (ah F (TO.qa F (TO.qa F (ae (az (ao ?_))))))
 refine ct nS (vI (bW d:Int)) Tryz.results97 F F ?_
 exact⟨[],a_ (List.nil_sublist _),F,F⟩
theorem Gg (w:World) [cG Tryz.prog w] (d:bY) (nb fb:Option Addr) (nc fc:Nat) (vs:List Value) (h:eA w d nb vs fb) (hv:Valid d) (hn:d.next.length<10000) (k:Int):
  bs Tryz.prog 97 [.agg (cB d nb nc fb fc).toArray,vI k] w fun v N=> ∃b c,v=.tuple #[.slice b d.next.length c,vI 0]∧N=[ak b c 3 1 (aQ (fj d k.toNat))]:=by
 refine av func97 F ntmps97 F ?_
 have he:=dr.2 hv
 have hb:d.next.length<9223372036854775807:=by have:=hv.n4;omega
 have jy: ∀r∈d.next,r.length<9223372036854775807:=hv.uQ
 have j6:d.aA.length<9223372036854775807:=by have:=hv.fin;omega
 refine ai (aj F (cL (cs:=[(vI d.vars),(vI d.start),(.slice nb d.next.length nc),(.slice fb d.aA.length fc)]) F F (fun z1=>?_)))
 refine TO.qa F (TO.qa F (ae (ai (ad (cN 0 underlying25 F aX F F F) ?_))))
 let dS:Lx.Item:=oI z1 25 [(vI d.vars),(vI d.start),(.slice nb d.next.length nc),(.slice fb d.aA.length fc)]
 have rS:=fun(w1:World) (hI:Inv w [dS] w1)=>(haveI:=Inv.tab (P:=Tryz.prog) hI;rp w1 d nb fb nc fc vs (hI.u4 h) hb jy j6)
 refine aj F (aI Ew (aE rS) F ?_)
 clear rS
 rintro v O' ⟨N,rfl,rfl,rfl⟩
 rw[he]
 refine TO.qa F (ae (ax (ai (ah F (ad (cS F F) (ae (aL F (aq (ai (ad (cN 0 underlying25 F aX F F F) (ah F ?_)))))))))))
 have oS:=fun(w1:World) (hI:Inv w [dS] w1)=>(haveI:=Inv.tab (P:=Tryz.prog) hI;KB w1 d nb fb nc fc vs (hI.u4 h) hv hn k)
 refine aj F (aI Qv (aE oS) F ?_)
 clear oS
 rintro v O' ⟨N,rfl,mb,mc,qs,rfl,rfl,hM⟩
 let gz:Lx.Item:=ak mb mc 23 1 (fh qs)
 refine bM (O':=([gz,dS]++(eW 4 qs))) (eB []) ?_
 refine TO.qa F (ae (ai (TO.qa F (ae (ai (TO.qa F (ae (ax (ai (TO.qa F (ae (aC (T.dt 3 1 ?_)))))))))))))
 let kn:Value:=(.agg #[(vI d.vars),(vI d.start),(.slice nb d.next.length nc),(.slice fb d.aA.length fc)])
 refine ck (fun(s:Nat) ρ O=> ∃(lb:Option Addr) (lc:Nat),O=([ak lb lc 3 1 (aQ (hU d (min k.toNat d.next.length) s).1),gz,dS]++(eW 4 qs))∧s≤d.next.length∧bZ [(0,kn),(1,vI k),(2,(.pointer (aD z1))),(4,nS),(5,vI 0),(6,vN 0),(7,(.slice mb d.next.length mc)),(8,(.slice lb s lc)),(9,vN ((hU d (min k.toNat d.next.length) s).2)),(10,vI (s:Int))] ρ) (fun s=>d.next.length-s) 0 ?_ ?_
 ·exact⟨none,0,F,Nat.zero_le _,(.of F)⟩
 rintro s ρ O ⟨lb,lc,rfl,hs,hH⟩
 obtain⟨eP,rfl⟩:=hH.elim
 clear hH
 obtain⟨yU,X9⟩:=BM d (min k.toNat d.next.length) s
 refine ax (ai (ah F (ah F (ad (bL underlying91 F) (ad (bI F F) (ae (aw F (fun hc=>?_) (fun hc=>?_))))))))
 ·have JQ:s<d.next.length:=by omega
  obtain⟨qa,ma,ga,la,ea⟩:=hM.get JQ
  refine aq (ax (aC (ai (TO.qa F (ae (ax (aC ?_)))))))
  refine ck (fun(t:Nat) ρ O=>O=([ak lb lc 3 1 (aQ (hU d (min k.toNat d.next.length) s).1),gz,dS]++(eW 4 qs))∧t≤s∧(∀t',t'<t→jv d (min k.toNat d.next.length) s t'=true)∧bZ [(0,kn),(1,vI k),(2,(.pointer (aD z1))),(4,nS),(5,vI 0),(6,vN 0),(7,(.slice mb d.next.length mc)),(8,(.slice lb s lc)),(9,vN ((hU d (min k.toNat d.next.length) s).2)),(10,vI (s:Int)),(11,vI (t:Int))] ρ) (fun t=>s-t) 0 ?_ ?_
  ·exact⟨F,Nat.zero_le _,fun t' h=>absurd h (by omega),(.of F)⟩
  rintro t ρ O ⟨rfl,ht,XM,hH⟩
  obtain⟨eP,rfl⟩:=hH.elim
  clear hH
  refine ax (ai (ah F (ah F (ad (cq (i:=s) underlying91 ce F F (cw (mG 1 F)) JQ (by rw[List.length_map,hM.len];exact JQ)) (ad (bS underlying23 F F (cw (mG 1 F)) ga) (ah F (ad (cq (i:=t) underlying23 dc F F (fun w hI=>hI.eV (T:=4) (k:=1) (List.mem_append_right _ (List.mem_map_of_mem (f:=jY.lZ 4) ma))) (by omega) (by omega)) (ad (bS underlying4 F F (fun w hI=>hI.eV (T:=4) (k:=1) (List.mem_append_right _ (List.mem_map_of_mem (f:=jY.lZ 4) ma))) (ea t (by omega))) (ae (T.cond F (fun hc=>?_) (fun hc=>?_)))))))))))
  ·have Y7:t<s:=by
    by_cases e:t=s
    ·subst e;rw[Jk]at hc;cases hc
    ·omega
   refine aq (aC (aH (ah F (ad (ey F F (by omega)) (TO.qa F (ae ?_))))))
   exact⟨t+1,by omega,F,by omega,fun t' h9=>by
    by_cases e:t'=t
    ·subst e;exact hc
    ·exact XM t' (by omega),(.of F)⟩
  have uh:=hc
  refine bn ?_
  refine ai (ah F (ah F (ad (bI F F) (ae (aw F (fun hc=>?_) (fun hc=>?_))))))
  ·have yt:t<s:=by omega
   have pX:=Jp yt XM uh
   refine aH (ah F (ah F (ah F (ad (cq (i:=t) underlying56 aM F F (cw (mG 0 F)) yt (by rw[List.length_map,yU];exact yt)) (ad (bS underlying3 F F (cw (mG 0 F)) (show(aQ (hU d (min k.toNat d.next.length) s).1)[t]? =some (vN ((hU d (min k.toNat d.next.length) s).1.getD t 0)) by rw[eK (by rw[yU];exact yt)];simp[yU,yt])) (aj F (bN (v:=vN ((hU d (min k.toNat d.next.length) s).1.getD t 0)) underlying56 aM F F F (fun z2=>?_))))))))
   refine aj F (bX 1 underlying56 underlying56 aM F F F F (by rw[List.length_map,yU,Nat.mul_one]) (by decide) (Src.row (j:=0) F (by simp)) (by simp[dD]) (by omega) (by decide) (by decide) (fun z3 oh=>?_))
   refine TO.qa F (ae (aH (ah F (ad (ey F F (by omega)) (TO.qa F ?_)))))
   let gn:Lx.Item:=ak z3 oh 3 1 ((aQ (hU d (min k.toNat d.next.length) s).1)++[vN ((hU d (min k.toNat d.next.length) s).1.getD t 0)])
   refine bM (O':=([gn,gz,dS]++(eW 4 qs))) (ez [1,1,1] [ak (aD z2) 1 3 1 [vN ((hU d (min k.toNat d.next.length) s).1.getD t 0)],gn,gz,dS] (eW 4 qs) F F) ?_
   refine ae ?_
   refine⟨s+1,by omega,z3,oh,?_,by omega,?_⟩
   ·rw[pX,show aQ ((hU d (min k.toNat d.next.length) s).1++[(hU d (min k.toNat d.next.length) s).1.getD t 0])=aQ (hU d (min k.toNat d.next.length) s).1++[vN ((hU d (min k.toNat d.next.length) s).1.getD t 0)]from List.map_append]
   ·rw[pX];exact(.of F)
  have Vb: ¬t<s:=by omega
  have hte:t=s:=by omega
  have pX:=Jq (d:=d) (k:=(min k.toNat d.next.length)) (s:=s) (fun t' h9=>XM t' (by omega))
  refine ai (ah F (ah F (aj F (bN (v:=vN ((hU d (min k.toNat d.next.length) s).2)) underlying56 aM F F F (fun z5=>?_)))))
  refine aj F (bX 1 underlying56 underlying56 aM F F F F (by rw[List.length_map,yU,Nat.mul_one]) (by decide) (Src.row (j:=0) F (by simp)) (by simp[dD]) (by omega) (by decide) (by decide) (fun z6 AA=>?_))
  refine TO.qa F (ae (aH (ah F (ad (ey F F (by omega)) (TO.qa F (ae (aH (ah F (ad (ey F F (by omega)) (TO.qa F ?_))))))))))
  let gN:Lx.Item:=ak z6 AA 3 1 ((aQ (hU d (min k.toNat d.next.length) s).1)++[vN ((hU d (min k.toNat d.next.length) s).2)])
  refine bM (O':=([gN,gz,dS]++(eW 4 qs))) (ez [1,1,1] [ak (aD z5) 1 3 1 [vN ((hU d (min k.toNat d.next.length) s).2)],gN,gz,dS] (eW 4 qs) F F) ?_
  refine ae ?_
  refine⟨s+1,by omega,z6,AA,?_,by omega,?_⟩
  ·rw[pX,show aQ ((hU d (min k.toNat d.next.length) s).1++[(hU d (min k.toNat d.next.length) s).2])=aQ (hU d (min k.toNat d.next.length) s).1++[vN ((hU d (min k.toNat d.next.length) s).2)]from List.map_append]
  ·rw[pX];exact(.of F)
 have Zm: ¬s<d.next.length:=by omega
 refine bn ?_
 refine ai (ah F (TO.qa F (TO.qa F (ae (az (ao ?_))))))
 refine ct (.slice lb s lc) (vI 0) Tryz.results97 F F ?_
 have B4:s=d.next.length:=by omega
 have hx:(hU d (min k.toNat d.next.length) s).1=fj d k.toNat:=by rw[B4];exact Jr hv k.toNat
 exact⟨[ak lb lc 3 1 (aQ (hU d (min k.toNat d.next.length) s).1)],Sub.ri ([gz,dS]++eW 4 qs) (by intro a;simp only[bl,eW,oI,List.set_cons_zero,List.set_cons_succ,dl,List.cons_append,List.nil_append,List.append_nil,List.append_assoc,List.map_append,List.map_cons,List.map_nil,gA,gX,ml,vI,nS,aD]<;>omega),lb,lc,by rw[B4],by rw[hx]⟩
theorem BX (w:World) [cG Tryz.prog w] (d:bY) (nb fb:Option Addr) (nc fc:Nat) (vs:List Value) (h:eA w d nb vs fb) (hb:d.next.length<9223372036854775807) (jy: ∀r∈d.next,r.length<9223372036854775807) (j6:d.aA.length<9223372036854775807) (he:bW d≠0):
  bs Tryz.prog 61 [.agg (cB d nb nc fb fc).toArray] w fun v N=>v=.tuple #[nS,vI (bW d:Int)]∧N=[]:=by
 refine av func61 F ntmps61 F ?_
 refine ai (aj F (cL (cs:=[(vI d.vars),(vI d.start),(.slice nb d.next.length nc),(.slice fb d.aA.length fc)]) F F (fun b1=>?_)))
 refine TO.qa F (TO.qa F (ae (ai (ad (cN 0 underlying25 F aX F F F) (ad (aJ underlying25 F cU F F) (ad (aO 0 underlying22 F F F F) (ad (bL underlying22 F) ?_)))))))
 have DV:=fun(w1:World) (hI:Inv w [oI b1 25 [(vI d.vars),(vI d.start),(.slice nb d.next.length nc),(.slice fb d.aA.length fc)]] w1)=>(haveI:=Inv.tab (P:=Tryz.prog) hI;Dx w1 d nb fb nc fc vs (hI.u4 h) hb jy j6 he d.next.length)
 refine aj F (aI NQ (aE DV) F ?_)
 clear DV
 rintro v O' ⟨N,rfl,rfl,rfl⟩
 refine ad (bm (vs:=_) F F) (ad (bm (vs:=_) F F) (TO.qa F (TO.qa F (ae (az (ao ?_))))))
 refine ct nS (vI (bW d:Int)) Tryz.results61 F F ?_
 exact⟨[],a_ (List.nil_sublist _),F,F⟩
theorem Dw (w:World) [cG Tryz.prog w] (d:bY) (nb fb:Option Addr) (nc fc:Nat) (vs:List Value) (h:eA w d nb vs fb) (hv:Valid d) (hn:d.next.length<10000):
  bs Tryz.prog 61 [.agg (cB d nb nc fb fc).toArray] w fun v N=> ∃b c,v=.tuple #[.slice b d.next.length c,vI 0]∧N=[ak b c 3 1 (aQ (fj d d.next.length))]:=by
 refine av func61 F ntmps61 F ?_
 refine ai (aj F (cL (cs:=[(vI d.vars),(vI d.start),(.slice nb d.next.length nc),(.slice fb d.aA.length fc)]) F F (fun b1=>?_)))
 refine TO.qa F (TO.qa F (ae (ai (ad (cN 0 underlying25 F aX F F F) (ad (aJ underlying25 F cU F F) (ad (aO 0 underlying22 F F F F) (ad (bL underlying22 F) ?_)))))))
 have DV:=fun(w1:World) (hI:Inv w [oI b1 25 [(vI d.vars),(vI d.start),(.slice nb d.next.length nc),(.slice fb d.aA.length fc)]] w1)=>(haveI:=Inv.tab (P:=Tryz.prog) hI;Gg w1 d nb fb nc fc vs (hI.u4 h) hv hn d.next.length)
 refine aj F (aI NQ (aE DV) F ?_)
 clear DV
 rintro v O' ⟨N,rfl,b,c,rfl,rfl⟩
 refine ad (bm (vs:=_) F F) (ad (bm (vs:=_) F F) (TO.qa F (TO.qa F (ae (az (ao ?_))))))
 refine ct (.slice b d.next.length c) (vI 0) Tryz.results61 F F ?_
 exact⟨[ak b c 3 1 (aQ (fj d d.next.length))],(au [0] F),_,_,F,F⟩
end Go.Proofs.YtgdbfideeeegmaaGreatDoor

namespace Go.Proofs.YtgdbfideeeegmaaGreatDoor
open Go.Lx Go.RowKit _root_.Go.Proofs.Tryz
theorem JO (w:World) [cG Tryz.prog w] (b:Option Addr) (c:Nat) (xs:List Nat) (x m:Nat) (hm:m=xs.length) (h:Sl w b (aQ xs)) (hb:xs.length<9223372036854775807):bs Tryz.prog 137 [.slice b m c,vI (x:Int)] w fun v N=>v=.bool (decide (x∈xs))∧N=[]:=by
 subst hm
 have h1:=NZ w b c (xs.map fun x:Nat=>(x:Int)) x (by simpa[Function.comp_def]using h) (by simpa using hb)
 have e:decide ((x:Int)∈xs.map fun x:Nat=>(x:Int))=decide (x∈xs):=by
  apply decide_eq_decide.2
  simp only[List.mem_map]
  constructor
  ·rintro⟨y,hy,e⟩
   have:y=x:=by omega
   exact this▸hy
  ·exact fun h=>⟨x,h,F⟩
 rw[e,List.length_map]at h1
 exact h1
theorem Ml (w:World) [cG Tryz.prog w] (b:Option Addr) (c:Nat) (xs:List Nat) (x m:Nat) (hm:m=xs.length) (h:Sl w b (aQ xs)) (hb:xs.length<9223372036854775807) (hx:x∈xs):bs Tryz.prog 99 [.slice b m c,vI (x:Int)] w fun v N=>v=vN (ix x xs)∧N=[]:=by
 refine av func99 F ntmps99 F ?_
 have hix:=so hx
 have XK:=pq hx
 refine ai (TO.qa F (ae (ai (TO.qa F (ae (ax (aC ?_)))))))
 refine ck (fun(k:Nat) ρ O=>O=[]∧k≤ix x xs∧bZ [(0,(.slice b m c)),(1,vI (x:Int)),(4,vI 0),(5,vI (k:Int))] ρ) (fun k=>xs.length-k) 0 ?_ ?_
 ·exact⟨F,Nat.zero_le _,⟨F,F,F,F,trivial⟩⟩
 rintro k ρ O ⟨rfl,hk,hH⟩
 obtain⟨eP,rfl⟩:=hH.elim
 clear hH
 have nF:k<xs.length:=by omega
 refine ax (ai (ah F (ah F (ad (cq (i:=k) underlying56 aM F F (aB h) (by omega) (by rw[List.length_map];omega)) (ad (bS underlying3 F F (aB h) (eK nF)) (ah F (ad (cS F F) (ae (aw (p:= ¬xs[k]=x) (congrArg Value.bool (decide_eq_decide.2 (by omega))) (fun hc=>?_) (fun hc=>?_))))))))))
 ·have Zh:xs[k]≠x:=by omega
  have rB:k≠ix x xs:=fun e=>hc (by subst e;exact Option.some.inj (by rw[←XK,List.getElem?_eq_getElem nF]))
  refine aq (aC (aH (ah F (ad (ey F F (by omega)) (TO.qa F (ae ?_))))))
  exact⟨k+1,by omega,F,by omega,⟨F,F,F,F,trivial⟩⟩
 have Zi: ¬xs[k]≠x:=by omega
 refine bn ?_
 refine ai (ah F (TO.qa F (ae (az ?_))))
 refine aG (vI (k:Int)) Tryz.results99 F ?_
 have Aa:=NV (List.getElem?_eq_some_iff.2 ⟨nF,Classical.not_not.1 hc⟩)
 exact⟨by rw[show k=ix x xs by omega],F⟩
theorem QS (w:World) [cG Tryz.prog w] (d:bY) (nb fb:Option Addr) (nc fc:Nat) (vs:List Value) (h:eA w d nb vs fb) (hv:Valid d) (hn:d.next.length<10000):
  bs Tryz.prog 98 [.agg (cB d nb nc fb fc).toArray] w fun v N=> ∃b c,v=.slice b (order d).length c∧N=[ak b c 3 1 (aQ (order d))]:=by
 refine av func98 F ntmps98 F ?_
 have sB:=hv.s0
 have ut:=h.rows.1
 have Sb:=hv.width
 let gz:Value:=(.slice fb d.aA.length fc)
 let gN:Value:=(.slice nb d.next.length nc)
 refine ai (aj F (cL (cs:=[(vI d.vars),(vI d.start),gN,gz]) F F (fun z1=>?_)))
 refine TO.qa F (ae (ai (ad (aJ underlying25 F aM F F) (ad (aO 0 underlying3 F F F F) (aj F (bN (v:=(vI d.start)) underlying56 aM F F F (fun z2=>?_)))))))
 refine TO.qa F (ae (ax (ai (TO.qa F (ae (aC ?_))))))
 refine ck (fun(i:Nat) ρ O=> ∃(lb:Option Addr) (lc m:Nat),O=[ak lb lc 3 1 (aQ (ew d i)),oI z1 25 [(vI d.vars),(vI d.start),gN,gz]]∧m=(ew d i).length∧i≤m∧bZ [(0,(.agg #[(vI d.vars),(vI d.start),gN,gz])),(1,(.pointer (aD z1))),(2,nS),(3,(.slice lb m lc)),(4,vI (i:Int))] ρ) (fun i=>d.next.length-i) 0 ?_ ?_
 ·exact⟨_,_,1,by rw[show aQ (ew d 0)=[vI d.start] by simp[ew,Int.toNat_of_nonneg sB]],F,Nat.zero_le _,(.of F)⟩
 rintro i ρ O ⟨lb,lc,m,rfl,hm,him,hH⟩
 obtain⟨eP,rfl⟩:=hH.elim
 clear hH
 have ie:=pv hv.toVal i
 refine ax (ai (ah F (ah F (ad (bL underlying56 F) (ad (bI F F) (ae (aw F (fun hc=>?_) (fun hc=>?_))))))))
 ·have kX:i<m:=by omega
  obtain⟨o,ho⟩: ∃o,(ew d i)[i]? =some o:=⟨_,List.getElem?_eq_getElem (show i<(ew d i).length by omega)⟩
  have yr:=(nu hv.toVal i).2 o (List.mem_of_getElem? ho)
  obtain⟨vb,vc,g1,s1⟩:=h.rows.get yr
  have uw:d.next[o].length=2^d.vars.toNat:=hv.len _ (List.getElem_mem yr)
  refine aq (ax (aC (ax ?_)))
  refine dO [(0,0),(1,0),(2,0),(3,0),(4,0),(5,0),(6,0),(7,0),(8,0)] ?_
  refine am F (aJ underlying25 F cU F F) (am F (aO 1 underlying22 F F F F) (am F (aF F) (am F (aF F) ?_)))
  refine am F (cq (i:=i) underlying56 aM F F (cw (mG 0 F)) (by omega) (by rw[List.length_map];omega)) (am F (bS underlying3 F F (cw (mG 0 F)) (show(aQ (ew d i))[i]? =some (vN o) by rw[List.getElem?_map,ho];rfl)) (am F (cq (i:=o) underlying22 bP F F (aB h.outer) yr (ut▸yr)) (am F (bS underlying56 F F (aB h.outer) g1) ?_)))
  refine am F (cD F) ?_
  refine bu ?_
  refine ai (TO.qa F (ae (aC ?_)))
  let gn:Lx.Item:=oI z1 25 [(vI d.vars),(vI d.start),(.slice nb d.next.length nc),(.slice fb d.aA.length fc)]
  refine ck (fun(x:Nat) ρ O=> ∃(lb:Option Addr) (lc m2:Nat),O=[ak lb lc 3 1 (aQ (nV d i o x)),gn]∧x≤2^d.vars.toNat∧m2=(nV d i o x).length∧bZ [(0,(.agg #[(vI d.vars),(vI d.start),(.slice nb d.next.length nc),(.slice fb d.aA.length fc)])),(1,(.pointer (aD z1))),(2,nS),(3,(.slice lb m2 lc)),(4,vI (i:Int)),(5,(.slice vb d.next[o].length vc)),(6,vI (x:Int))] ρ) (fun x=>2^d.vars.toNat-x) 0 ?_ ?_
  ·exact⟨lb,lc,m,F,Nat.zero_le _,hm,(.of F)⟩
  rintro x ρ O ⟨lb,lc,m2,rfl,hx,uu,hH⟩
  obtain⟨eP,rfl⟩:=hH.elim
  clear hH
  obtain⟨aa0,aa1⟩:=JI (i:=i) hv yr hx
  refine ax (ai (ah F (ah F (ad (bL underlying56 F) (ad (bI F F) (ae (aw F (fun hc=>?_) (fun hc=>?_))))))))
  ·have Zj:x<d.next[o].length:=by omega
   have ux:x<2^d.vars.toNat:=by omega
   obtain⟨Rb,_,Cz,xI⟩:=hv.fB yr ux
   have xI:(ints d.next[o])[x]? =some (vN (dJ d o x)):=by rw[d_ Cz,xI]
   refine aq (ax (aC (ai (ah F (ah F (ah F (ad (cq (i:=x) underlying56 aM F F (aB s1) (by rw[uw];exact ux) (by rw[List.length_map,uw];exact ux)) (ad (bS underlying3 F F (aB s1) xI) ?_))))))))
   by_cases wL:dJ d o x∈nV d i o x
   ·let dS:List Lx.Item:=[ak lb lc 3 1 (aQ (nV d i o x)),oI z1 25 [(vI d.vars),(vI d.start),(.slice nb d.next.length nc),(.slice fb d.aA.length fc)]]
    have A3:=fun(w1:World) (hI:Inv w dS w1)=>(haveI:=Inv.tab (P:=Tryz.prog) hI;JO w1 lb lc (nV d i o x) (dJ d o x) m2 uu (hI.eV (mG 0 F)) (by omega))
    refine aj F (aI I4 (aE A3) F ?_)
    clear A3
    rintro v O' ⟨N,rfl,rfl,rfl⟩
    rw[decide_eq_true wL]
    refine ad (f_ F) (ae (aL F (aq (aH (ah F (ad (ey F F (by omega)) (TO.qa F ?_)))))))
    refine bM (O':=dS) (au [0,0] F) ?_
    refine ae ?_
    have pX:nV d i o (x+1)=nV d i o x:=by rw[yn,add,if_pos wL]
    exact⟨x+1,by omega,lb,lc,m2,by rw[pX],by omega,by rw[pX];exact uu,(.of F)⟩
   have A3:=fun(w1:World) (hI:Inv w [ak lb lc 3 1 (aQ (nV d i o x)),gn] w1)=>(haveI:=Inv.tab (P:=Tryz.prog) hI;JO w1 lb lc (nV d i o x) (dJ d o x) m2 uu (hI.eV (mG 0 F)) (by omega))
   refine aj F (aI I4 (aE A3) F ?_)
   clear A3
   rintro v O' ⟨N,rfl,rfl,rfl⟩
   rw[decide_eq_false wL]
   refine ad (f_ F) (ae ?_)
   refine bg F ?_
   refine aH (ah F (ah F (ah F (ad (cq (i:=x) underlying56 aM F F (aB s1) (by rw[uw];exact ux) (by rw[List.length_map,uw];exact ux)) (ad (bS underlying3 F F (aB s1) xI) (aj F (bN (v:=vN (dJ d o x)) underlying56 aM F F F (fun z3=>?_))))))))
   refine aj F (bX 1 underlying56 underlying56 aM F F F F (by rw[List.length_map,uu,Nat.mul_one]) (by decide) (Src.row (j:=0) F (by simp)) (by simp[dD]) (by omega) (by decide) (by decide) (fun z4 CO=>?_))
   refine TO.qa F (ae (aH (ah F (ad (ey F F (by omega)) (TO.qa F ?_)))))
   refine bM (O':=[ak z4 CO 3 1 ((aQ (nV d i o x))++[vN (dJ d o x)]),gn]) (au [1,1] F) ?_
   refine ae ?_
   have pX:nV d i o (x+1)=nV d i o x++[dJ d o x]:=by rw[yn,add,if_neg wL]
   exact⟨x+1,by omega,z4,CO,m2+1,by rw[pX,show aQ (nV d i o x++[dJ d o x])=aQ (nV d i o x)++[vN (dJ d o x)]from List.map_append],by omega,by rw[pX];simp[uu],(.of F)⟩
  have Zk: ¬x<d.next[o].length:=by omega
  refine bn ?_
  refine aH (ah F (ad (ey F F (by omega)) (TO.qa F (ae ?_))))
  have wX:x=2^d.vars.toNat:=by omega
  have NA:nV d i o x=ew d (i+1):=by rw[tg ho,wX];rfl
  exact⟨i+1,by omega,lb,lc,m2,by rw[NA],by rw[←NA];exact uu,by omega,(.of F)⟩
 have Hy: ¬i<m:=by omega
 refine bn ?_
 refine ai (ah F (TO.qa F (ae (az (ao ?_)))))
 refine aG (.slice lb m lc) Tryz.results98 F ?_
 have ie:=pv hv.toVal i
 have Aa:order d=ew d i:=pu (by omega) (by omega)
 exact⟨[ak lb lc 3 1 (aQ (ew d i))],(au [0] F),_,_,by rw[Aa,←hm],by rw[Aa]⟩
theorem JP (w:World) [cG Tryz.prog w] (d:bY) (nb fb:Option Addr) (nc fc:Nat) (vs:List Value) (h:eA w d nb vs fb) (hv:Valid d) (hn:d.next.length<10000):
  bs Tryz.prog 62 [.agg (cB d nb nc fb fc).toArray] w fun v N=> ∃oF oG kI kJ qs,v=.tuple #[.agg (cB (cO d) oF oG kI kJ).toArray,vI 0]∧N=[ak oF oG 56 1 (bO qs),ak kI kJ 4 1 (aU (cO d).aA)]++bl 3 qs∧nums qs=(cO d).next:=by
 refine av func62 F ntmps62 F ?_
 have he:=dr.2 hv
 have hb:d.next.length<9223372036854775807:=by have:=hv.n4;omega
 have jy: ∀r∈d.next,r.length<9223372036854775807:=hv.uQ
 have j6:d.aA.length<9223372036854775807:=by have:=hv.fin;omega
 have ut:=h.rows.1
 have Sb:=hv.width
 have TS:=pB hv.toVal
 have qp:=hv.fin
 refine ai (aj F (cL (cs:=[(vI d.vars),(vI d.start),(.slice nb d.next.length nc),(.slice fb d.aA.length fc)]) F F (fun z1=>?_)))
 refine aj F (aR aX F (fun z2=>?_))
 refine TO.qa F (ae (ai (ad (cN 1 underlying25 F aX F F F) ?_)))
 have ly:=fun(w1:World) (hI:Inv w [oI z2 25 [(vI 0),(vI 0),nS,nS],oI z1 25 [(vI d.vars),(vI d.start),(.slice nb d.next.length nc),(.slice fb d.aA.length fc)]] w1)=>(haveI:=Inv.tab (P:=Tryz.prog) hI;rp w1 d nb fb nc fc vs (hI.u4 h) hb jy j6)
 refine aj F (aI Ew (aE ly) F ?_)
 clear ly
 rintro v O' ⟨N,rfl,rfl,rfl⟩
 rw[he]
 refine TO.qa F (ae (ax (ai (ah F (ad (cS F F) (ae (aL F (aq (ai (ad (cN 1 underlying25 F aX F F F) ?_))))))))))
 have Ic:=fun(w1:World) (hI:Inv w [oI z2 25 [(vI 0),(vI 0),nS,nS],oI z1 25 [(vI d.vars),(vI d.start),(.slice nb d.next.length nc),(.slice fb d.aA.length fc)]] w1)=>(haveI:=Inv.tab (P:=Tryz.prog) hI;QS w1 d nb fb nc fc vs (hI.u4 h) hv hn)
 refine aj F (aI UT (aE Ic) F ?_)
 clear Ic
 rintro v O' ⟨N,rfl,lb,lc,rfl,rfl⟩
 refine TO.qa F (ae (ai (ad (aJ underlying25 F aM F F) (ad (aO 2 underlying3 F F F F) (ad (bE (cs:=[(vI d.vars),(vI 0),nS,nS]) gK aX (by kernel_rfl)) (aj F (aR aX F (fun z3=>?_))))))))
 refine aj F (bj (vs:=[(vI d.vars),(vI 0),nS,nS]) 0 aX F F F F ?_)
 refine ae (ax (ai (TO.qa F (ae (aC (T.dt 4 1 ?_))))))
 refine T.dt 56 1 ?_
 refine ck (fun(i:Nat) ρ O=> ∃(ob fI:Option Addr) (oc fJ:Nat) (qs:List Rec),O=([ak ob oc 56 1 (bO qs),ak fI fJ 4 1 (aU (((order d).take i).map fun o=>d.aA.getD o false)),oI z3 25 [(vI d.vars),(vI 0),(.slice ob i oc),(.slice fI i fJ)],ak lb lc 3 1 (aQ (order d)),oI z2 25 [(vI 0),(vI 0),nS,nS],oI z1 25 [(vI d.vars),(vI d.start),(.slice nb d.next.length nc),(.slice fb d.aA.length fc)]]++(bl 3 qs))∧i≤(order d).length∧nums qs=(cO d).next.take i∧bZ [(0,(.agg #[(vI d.vars),(vI d.start),(.slice nb d.next.length nc),(.slice fb d.aA.length fc)])),(1,(.pointer (aD z1))),(2,(.pointer (aD z2))),(3,vI 0),(4,vN 0),(5,(.slice lb ((order d).length) lc)),(6,(.pointer (aD z3))),(7,vI (i:Int))] ρ) (fun i=>(order d).length-i) 0 ?_ ?_
 ·refine⟨none,none,0,0,[],?_,Nat.zero_le _,F,(.of F)⟩
  rfl
 rintro i ρ O ⟨ob,fI,oc,fJ,qs,rfl,hi,rJ,hH⟩
 obtain⟨eP,rfl⟩:=hH.elim
 clear hH
 have wO:qs.length=i:=by
  have:=congrArg List.length rJ
  simp[wH]at this
  omega
 refine ax (ai (ah F (ah F (ad (bL underlying56 F) (ad (bI F F) (ae (aw F (fun hc=>?_) (fun hc=>?_))))))))
 ·have gE:i<(order d).length:=by omega
  obtain⟨o,XL⟩: ∃o,(order d)[i]=o:=⟨_,F⟩
  have ho:(order d)[i]? =some o:=by rw[List.getElem?_eq_getElem gE,XL]
  have QK:=List.mem_of_getElem? ho
  have yr:=JJ hv o QK
  have VU:o<d.aA.length:=by omega
  obtain⟨vb,vc,g1,s1⟩:=h.rows.get yr
  have uw:d.next[o].length=2^d.vars.toNat:=hv.len _ (List.getElem_mem yr)
  refine aq (ax (aC (ai (TO.qa F (ae (ax (ai (TO.qa F (ae (aC (T.dt 3 1 ?_)))))))))))
  refine ck (fun(x:Nat) ρ O=> ∃(kb:Option Addr) (kc:Nat),O=([ak kb kc 3 1 (aQ ((fR d o).take x)),ak ob oc 56 1 (bO qs),ak fI fJ 4 1 (aU (((order d).take i).map fun o=>d.aA.getD o false)),oI z3 25 [(vI d.vars),(vI 0),(.slice ob i oc),(.slice fI i fJ)],ak lb lc 3 1 (aQ (order d)),oI z2 25 [(vI 0),(vI 0),nS,nS],oI z1 25 [(vI d.vars),(vI d.start),(.slice nb d.next.length nc),(.slice fb d.aA.length fc)]]++(bl 3 qs))∧x≤2^d.vars.toNat∧bZ [(0,(.agg #[(vI d.vars),(vI d.start),(.slice nb d.next.length nc),(.slice fb d.aA.length fc)])),(1,(.pointer (aD z1))),(2,(.pointer (aD z2))),(3,vI 0),(4,vN 0),(5,(.slice lb ((order d).length) lc)),(6,(.pointer (aD z3))),(7,vI (i:Int)),(8,(.slice kb x kc)),(9,vI (x:Int))] ρ) (fun x=>2^d.vars.toNat-x) 0 ?_ ?_
  ·exact⟨none,0,F,Nat.zero_le _,(.of F)⟩
  rintro x ρ O ⟨kb,kc,rfl,hx,hH⟩
  obtain⟨eP,rfl⟩:=hH.elim
  clear hH
  refine ax (ax ?_)
  refine dO [(0,0),(1,0),(2,0),(3,0),(4,0),(5,0),(6,0),(7,0),(8,0),(9,0),(10,0)] ?_
  refine am F (aF F) (am F (aJ underlying25 F cU F F) (am F (aO 6 underlying22 F F F F) (am F (aF F) ?_)))
  refine am F (aF F) (am F (cq (i:=i) underlying56 aM F F (cw (mG 4 F)) gE (by rw[List.length_map];exact gE)) (am F (bS underlying3 F F (cw (mG 4 F)) (show(aQ (order d))[i]? =some (vN o) by rw[List.getElem?_map,ho];rfl)) (am F (cq (i:=o) underlying22 bP F F (aB h.outer) yr (ut▸yr)) ?_)))
  refine am F (bS underlying56 F F (aB h.outer) g1) (am F (bL underlying56 F) (am F (bI F F) ?_))
  refine bu ?_
  refine aw F (fun hc=>?_) (fun hc=>?_)
  ·have yt:x<d.next[o].length:=by omega
   have ux:x<2^d.vars.toNat:=by omega
   obtain⟨Rb,_,Cz,xI⟩:=hv.fB yr ux
   have xI:(ints d.next[o])[x]? =some (vN (dJ d o x)):=by rw[d_ Cz,xI]
   have wL:dJ d o x∈order d:=nT hv o QK _ (List.mem_of_getElem? (sr ux))
   refine aq (ax (aC ?_))
   refine dO [(0,0),(1,0),(2,0),(3,0),(4,0),(5,0),(6,0),(7,0),(8,0),(9,0),(10,0),(11,0),(12,0),(13,1),(14,1),(15,2),(16,2)] ?_
   refine am F (aF F) (am F (aF F) (am F (aJ underlying25 F cU F F) (am F (aO 6 underlying22 F F F F) ?_)))
   refine am F (aF F) (am F (aF F) (am F (cq (i:=i) underlying56 aM F F (cw (mG 4 F)) gE (by rw[List.length_map];exact gE)) (am F (bS underlying3 F F (cw (mG 4 F)) (show(aQ (order d))[i]? =some (vN o) by rw[List.getElem?_map,ho];rfl)) ?_)))
   refine am F (cq (i:=o) underlying22 bP F F (aB h.outer) yr (ut▸yr)) (am F (bS underlying56 F F (aB h.outer) g1) (am F (aF F) (am F (cq (i:=x) underlying56 aM F F (aB s1) (by rw[uw];exact ux) (by rw[List.length_map,uw];exact ux)) (am F (bS underlying3 F F (aB s1) xI) ?_))))
   have A2:=fun(w1:World) (hI:Inv w ([ak kb kc 3 1 (aQ ((fR d o).take x)),ak ob oc 56 1 (bO qs),ak fI fJ 4 1 (aU (((order d).take i).map fun o=>d.aA.getD o false)),oI z3 25 [(vI d.vars),(vI 0),(.slice ob i oc),(.slice fI i fJ)],ak lb lc 3 1 (aQ (order d)),oI z2 25 [(vI 0),(vI 0),nS,nS],oI z1 25 [(vI d.vars),(vI d.start),(.slice nb d.next.length nc),(.slice fb d.aA.length fc)]]++(bl 3 qs)) w1)=>(haveI:=Inv.tab (P:=Tryz.prog) hI;Ml w1 lb lc (order d) (dJ d o x) _ F (hI.eV (mG 4 F)) (by omega) wL)
   refine bJ F F (aI UU (aE A2) F ?_)
   clear A2
   rintro v O' ⟨N,rfl,rfl,rfl⟩
   refine⟨ez [0,0,0,0,0,0,0] [ak kb kc 3 1 (aQ ((fR d o).take x)),ak ob oc 56 1 (bO qs),ak fI fJ 4 1 (aU (((order d).take i).map fun o=>d.aA.getD o false)),oI z3 25 [(vI d.vars),(vI 0),(.slice ob i oc),(.slice fI i fJ)],ak lb lc 3 1 (aQ (order d)),oI z2 25 [(vI 0),(vI 0),nS,nS],oI z1 25 [(vI d.vars),(vI d.start),(.slice nb d.next.length nc),(.slice fb d.aA.length fc)]] (bl 3 qs) F F,?_⟩
   refine bJ F F (bN (v:=vN (ix (dJ d o x) (order d))) underlying56 aM F F F (fun z4=>⟨ez [1,1,1,1,1,1,1] [ak (aD z4) 1 3 1 [vN (ix (dJ d o x) (order d))],ak kb kc 3 1 (aQ ((fR d o).take x)),ak ob oc 56 1 (bO qs),ak fI fJ 4 1 (aU (((order d).take i).map fun o=>d.aA.getD o false)),oI z3 25 [(vI d.vars),(vI 0),(.slice ob i oc),(.slice fI i fJ)],ak lb lc 3 1 (aQ (order d)),oI z2 25 [(vI 0),(vI 0),nS,nS],oI z1 25 [(vI d.vars),(vI d.start),(.slice nb d.next.length nc),(.slice fb d.aA.length fc)]] (bl 3 qs) F F,?_⟩))
   refine bq F F (bX 1 underlying56 underlying56 aM F F F F (by rw[List.length_map,List.length_take,jd];omega) (by decide) (Src.row (j:=0) F (by simp)) (by simp[dD]) (by omega) (by decide) (by decide) (fun z5 B8=>?_))
   refine bq F F (dG F F (cD F) ?_)
   refine bu ?_
   refine aH (ah F (ad (ey F F (by omega)) (TO.qa F ?_)))
   refine bM (O':=([ak z5 B8 3 1 ((aQ ((fR d o).take x))++[vN (ix (dJ d o x) (order d))]),ak ob oc 56 1 (bO qs),ak fI fJ 4 1 (aU (((order d).take i).map fun o=>d.aA.getD o false)),oI z3 25 [(vI d.vars),(vI 0),(.slice ob i oc),(.slice fI i fJ)],ak lb lc 3 1 (aQ (order d)),oI z2 25 [(vI 0),(vI 0),nS,nS],oI z1 25 [(vI d.vars),(vI d.start),(.slice nb d.next.length nc),(.slice fb d.aA.length fc)]]++(bl 3 qs))) (ez [1,1,1,1,1,1,1] [ak (aD z4) 1 3 1 [vN (ix (dJ d o x) (order d))],ak z5 B8 3 1 ((aQ ((fR d o).take x))++[vN (ix (dJ d o x) (order d))]),ak ob oc 56 1 (bO qs),ak fI fJ 4 1 (aU (((order d).take i).map fun o=>d.aA.getD o false)),oI z3 25 [(vI d.vars),(vI 0),(.slice ob i oc),(.slice fI i fJ)],ak lb lc 3 1 (aQ (order d)),oI z2 25 [(vI 0),(vI 0),nS,nS],oI z1 25 [(vI d.vars),(vI d.start),(.slice nb d.next.length nc),(.slice fb d.aA.length fc)]] (bl 3 qs) F F) ?_
   refine ae ?_
   exact⟨x+1,by omega,z5,B8,by rw[BV ux,show aQ ((fR d o).take x++[ix (dJ d o x) (order d)])=aQ ((fR d o).take x)++[vN (ix (dJ d o x) (order d))]from List.map_append],by omega,(.of F)⟩
  have Vb: ¬x<d.next[o].length:=by omega
  refine bn ?_
  refine ai (ad (aJ underlying25 F cU F F) (ad (aO 3 underlying22 F F F F) (ah F (aj F (bN (v:=(.slice kb x kc)) underlying22 bP F F F (fun z7=>?_))))))
  refine aj F (bX 2 underlying22 underlying22 bP F F F F (by rw[List.length_map];omega) (by decide) (Src.row (j:=0) F (by simp)) (by simp[dD]) (by omega) (by decide) (by decide) (fun z8 w7=>?_))
  refine ad (aJ underlying25 F cU F F) (aj F (bj (vs:=[(.slice z8 (i+1) w7)]) 4 cU F F F F ?_))
  refine ae ?_
  refine dO [(0,0),(1,0),(2,0),(3,0),(4,0),(5,0),(6,0),(7,0),(8,0),(9,0),(10,1),(11,2),(12,2),(13,2)] ?_
  refine am F (aJ underlying25 F ce F F) (am F (aO 4 underlying23 F F F F) (am F (aJ underlying25 F ce F F) (am F (aO 7 underlying23 F F F F) ?_)))
  refine am F (aF F) (am F (aF F) (am F (cq (i:=i) underlying56 aM F F (cw (mG 5 F)) gE (by rw[List.length_map];exact gE)) (am F (bS underlying3 F F (cw (mG 5 F)) (show(aQ (order d))[i]? =some (vN o) by rw[List.getElem?_map,ho];rfl)) ?_)))
  refine am F (cq (i:=o) underlying23 dc F F (aB h.aA) VU (by rw[List.length_map];exact VU)) (am F (bS underlying4 F F (aB h.aA) (gu VU)) ?_)
  refine bJ F F (bN (v:=.bool d.aA[o]) underlying23 dc F F F (fun uk=>⟨ez [1,1,1,1,1,1,1,1] [ak (aD uk) 1 4 1 [.bool d.aA[o]],ak (aD z7) 1 56 1 [(.slice kb x kc)],ak kb kc 3 1 (aQ ((fR d o).take x)),ak z8 w7 56 1 ((bO qs)++[(.slice kb x kc)]),ak fI fJ 4 1 (aU (((order d).take i).map fun o=>d.aA.getD o false)),oI z3 25 [(vI d.vars),(vI 0),(.slice z8 (i+1) w7),(.slice fI i fJ)],ak lb lc 3 1 (aQ (order d)),oI z2 25 [(vI 0),(vI 0),nS,nS],oI z1 25 [(vI d.vars),(vI d.start),(.slice nb d.next.length nc),(.slice fb d.aA.length fc)]] (bl 3 qs) F F,?_⟩))
  refine bq F F (bX 4 underlying23 underlying23 dc F F F F (by simp;omega) (by decide) (Src.row (j:=0) F (by simp)) (by simp[dD]) (by omega) (by decide) (by decide) (fun mM iz=>?_))
  refine bq F F (dG F F (aJ underlying25 F ce F F) ?_)
  refine bq F F (bj (vs:=[(.slice mM (i+1) iz)]) 5 ce F F F F ?_)
  refine bu ?_
  refine aH (ah F (ad (ey F F (by omega)) (TO.qa F ?_)))
  have wX:x=2^d.vars.toNat:=by omega
  have j8:aU (((order d).take (i+1)).map fun o=>d.aA.getD o false)=aU (((order d).take i).map fun o=>d.aA.getD o false)++[.bool d.aA[o]]:=by
   rw[List.take_succ_eq_append_getElem gE,List.map_append,XL];simp[VU]
  have hR:ak kb kc 3 1 (aQ ((fR d o).take x))=Rec.lZ 3 ⟨kb,kc,(fR d o).map fun x:Nat=>(x:Int)⟩:=by
   rw[List.take_of_length_le (by rw[jd];omega)];simp[Rec.lZ,Function.comp_def]
  refine bM (O':=[ak z8 w7 56 1 ((bO qs)++[(.slice kb x kc)]),ak mM iz 4 1 ((aU (((order d).take i).map fun o=>d.aA.getD o false))++[.bool d.aA[o]]),oI z3 25 [(vI d.vars),(vI 0),(.slice z8 (i+1) w7),(.slice mM (i+1) iz)],ak lb lc 3 1 (aQ (order d)),oI z2 25 [(vI 0),(vI 0),nS,nS],oI z1 25 [(vI d.vars),(vI d.start),(.slice nb d.next.length nc),(.slice fb d.aA.length fc)]]++bl 3 (qs++[⟨kb,kc,(fR d o).map fun x:Nat=>(x:Int)⟩])) (by show Sub _ ([ak (aD uk) 1 4 1 [.bool d.aA[o]],ak (aD z7) 1 56 1 [(.slice kb x kc)],ak kb kc 3 1 (aQ ((fR d o).take x)),ak z8 w7 56 1 ((bO qs)++[(.slice kb x kc)]),ak mM iz 4 1 ((aU (((order d).take i).map fun o=>d.aA.getD o false))++[.bool d.aA[o]]),oI z3 25 [(vI d.vars),(vI 0),(.slice z8 (i+1) w7),(.slice mM (i+1) iz)],ak lb lc 3 1 (aQ (order d)),oI z2 25 [(vI 0),(vI 0),nS,nS],oI z1 25 [(vI d.vars),(vI d.start),(.slice nb d.next.length nc),(.slice fb d.aA.length fc)]]++bl 3 qs);rw[hR];exact eB [ak (aD uk) 1 4 1 [.bool d.aA[o]],ak (aD z7) 1 56 1 [(.slice kb x kc)]]) ?_
  refine ae ?_
  refine⟨i+1,by omega,z8,mM,w7,iz,qs++[⟨kb,kc,(fR d o).map fun x:Nat=>(x:Int)⟩],?_,by omega,?_,(.of F)⟩
  ·rw[j8];simp[Rec.val,wX,jd]
  ·rw[show nums (qs++[⟨kb,kc,(fR d o).map fun x:Nat=>(x:Int)⟩])=nums qs++[(fR d o).map fun x:Nat=>(x:Int)] by simp,rJ,wH,←List.map_take,←List.map_take,List.take_succ_eq_append_getElem gE,XL];simp
 have xp: ¬i<(order d).length:=by omega
 refine bn ?_
 refine ai (ad (cN 2 underlying25 F aX F F F) (aj F (bj (vs:=[(vI d.vars),(vI 0),(.slice ob i oc),(.slice fI i fJ)]) 4 aX F F F F ?_)))
 refine TO.qa F (ae (az (ao ?_)))
 refine iJ (vI 0) (i:=4) Tryz.results62 underlying25 F aX F F F F ?_
 have sO:i=(order d).length:=by omega
 have Ol:(((order d).take i).map fun o=>d.aA.getD o false)=(cO d).aA:=by rw[List.take_of_length_le (by omega)];rfl
 have uw:(cO d).next.length=i:=by simp[cO,sO]
 have KC:(cO d).aA.length=i:=by simp[cO,sO]
 have Em:nums qs=(cO d).next:=by rw[rJ,List.take_of_length_le (by omega)]
 refine⟨[ak ob oc 56 1 (bO qs),ak fI fJ 4 1 (aU (((order d).take i).map fun o=>d.aA.getD o false))]++bl 3 qs,eB [oI z3 25 [(vI d.vars),(vI 0),(.slice ob i oc),(.slice fI i fJ)],ak lb lc 3 1 (aQ (order d)),oI z2 25 [(vI d.vars),(vI 0),(.slice ob i oc),(.slice fI i fJ)],oI z1 25 [(vI d.vars),(vI d.start),(.slice nb d.next.length nc),(.slice fb d.aA.length fc)]],ob,oc,fI,fJ,qs,?_,by rw[Ol],Em⟩
 show Value.tuple #[Value.agg (List.toArray [vI d.vars,vI 0,.slice ob i oc,.slice fI i fJ]),_]=Value.tuple #[Value.agg (List.toArray [vI d.vars,vI 0,.slice ob (cO d).next.length oc,.slice fI (cO d).aA.length fJ]),_]
 rw[uw,KC]
end Go.Proofs.YtgdbfideeeegmaaGreatDoor


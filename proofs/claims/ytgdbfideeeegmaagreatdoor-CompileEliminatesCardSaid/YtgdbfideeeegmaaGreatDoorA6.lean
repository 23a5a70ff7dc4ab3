/- Contracts of functions of the program, and what they answer. Conditions: those each theorem names. -/
import Derived.Test.YtgdbfideeeegmaaGreatDoorA2
import Derived.Test.YtgdbfideeeegmaaGreatDoorA5
import Derived.Test.YtgdbfideeeegmaaGreatDoorA1
import Derived.OpenShut
import Derived.Deep.DeepHandedRow
import Derived.Deep.Matrix
import Derived.Deep.Grids
import Derived.WideKeyArgs
import Derived.SizedLaws
import Derived.Shelf.Sort.Plain
import Derived.Shelf.Slices.In.SortNone
import Derived.Shelf.Slices.CompactI
import Derived.Shelf.Slices.SearchI
import Derived.Shelf.Slices.Empties
import Derived.Shelf.Spec.SlicesInsert
import Derived.Shelf.Spec.SlicesInsertGrow
set_option linter.unusedSectionVars false
set_option linter.unusedSimpArgs false
set_option linter.unusedVariables false
set_option linter.unnecessarySimpa false
set_option maxHeartbeats 8000000
set_option maxRecDepth 20000
namespace Go.Proofs.YtgdbfideeeegmaaGreatDoor
open Go.Lx Go.RowKit _root_.Go.Proofs.Tryz
theorem Mm (w:World) [cG Tryz.prog w] (d:bY) (nb fb:Option Addr) (nc fc:Nat) (vs:List Value) (h:eA w d nb vs fb) (hb:d.next.length<9223372036854775807) (jy: ∀r∈d.next,r.length<9223372036854775807) (j6:d.aA.length<9223372036854775807) (he:bW d≠0):
  bs Tryz.prog 35 [.agg (cB d nb nc fb fc).toArray] w fun v N=>v=.tuple #[.agg #[vI 0,vI 0,nS,nS],vI (bW d:Int)]∧N=[]:=by
 refine av func35 F ntmps35 F ?_
 refine ai (aj F (cL (cs:=[(vI d.vars),(vI d.start),(.slice nb d.next.length nc),(.slice fb d.aA.length fc)]) F F (fun b1=>?_)))
 refine aj F (aR aX F (fun b2=>?_))
 refine TO.qa F (ae (ai (ad (cN 1 underlying25 F aX F F F) ?_)))
 have vQ:=fun(w1:World) (hI:Inv w [oI b2 25 [(vI 0),(vI 0),nS,nS],oI b1 25 [(vI d.vars),(vI d.start),(.slice nb d.next.length nc),(.slice fb d.aA.length fc)]] w1)=>(haveI:=Inv.tab (P:=Tryz.prog) hI;BX w1 d nb fb nc fc vs (hI.u4 h) hb jy j6 he)
 refine aj F (aI NL (aE vQ) F ?_)
 clear vQ
 rintro v O' ⟨N,rfl,rfl,rfl⟩
 refine ah F (ad (bm (vs:=_) F F) (ad (bm (vs:=_) F F) (TO.qa F (TO.qa F (ae (ax (ai (ah F (ad (ar (cS F F) (decide_eq_true (by omega))) (ae ?_))))))))))
 refine bg F ?_
 refine ai (ad (bE gK aX F) (ah F (aj F (bj (vs:=[(vI 0),(vI 0),nS,nS]) 0 aX F F F F ?_))))
 refine TO.qa F (ae (az (ao ?_)))
 refine iJ (vI (bW d:Int)) (i:=0) Tryz.results35 underlying25 F aX F F F F ?_
 exact⟨[],a_ (List.nil_sublist _),F,F⟩
theorem QU (w:World) [cG Tryz.prog w] (d:bY) (nb fb:Option Addr) (nc fc:Nat) (vs:List Value) (h:eA w d nb vs fb) (hv:Valid d) (hn:d.next.length<10000) (U_:Valid (quo d (fj d d.next.length))) (Va:(quo d (fj d d.next.length)).next.length<10000):
  bs Tryz.prog 35 [.agg (cB d nb nc fb fc).toArray] w fun v N=> ∃oF oG kI kJ qs,v=.tuple #[.agg (cB (cO (quo d (fj d d.next.length))) oF oG kI kJ).toArray,vI 0]∧N=[ak oF oG 56 1 (bO qs),ak kI kJ 4 1 (aU (cO (quo d (fj d d.next.length))).aA)]++bl 3 qs∧nums qs=(cO (quo d (fj d d.next.length))).next:=by
 refine av func35 F ntmps35 F ?_
 obtain⟨cs,uc⟩: ∃cs,fj d d.next.length=cs:=⟨_,F⟩
 rw[uc]at U_ Va⊢
 have mj:cs.length=d.next.length:=uc▸dw d _
 have sB:=hv.s0
 have J1:=hv.s1
 have GZ:=hv.n0
 have MU:=hv.n4
 have nL:d.start.toNat<cs.length:=by omega
 have hb:d.next.length<9223372036854775807:=by omega
 have ut:=h.rows.1
 have Sb:=hv.width
 refine ai (aj F (cL (cs:=[(vI d.vars),(vI d.start),(.slice nb d.next.length nc),(.slice fb d.aA.length fc)]) F F (fun z1=>?_)))
 refine aj F (aR aX F (fun z2=>?_))
 refine TO.qa F (ae (ai (ad (cN 1 underlying25 F aX F F F) ?_)))
 have vQ:=fun(w1:World) (hI:Inv w [oI z2 25 [(vI 0),(vI 0),nS,nS],oI z1 25 [(vI d.vars),(vI d.start),(.slice nb d.next.length nc),(.slice fb d.aA.length fc)]] w1)=>(haveI:=Inv.tab (P:=Tryz.prog) hI;Dw w1 d nb fb nc fc vs (hI.u4 h) hv hn)
 refine aj F (aI NL (aE vQ) F ?_)
 clear vQ
 rintro v O' ⟨N,rfl,cb,cc,rfl,rfl⟩
 rw[uc]
 refine ah F (ad (bm (vs:=_) F F) (ad (bm (vs:=_) F F) (TO.qa F (TO.qa F (ae (ax (ai (ah F (ad (cS F F) (ae (aL F (aq (ax ?_)))))))))))))
 refine T.ds [ak cb cc 3 1 (aQ cs),oI z1 25 [(vI d.vars),(vI d.start),(.slice nb d.next.length nc),(.slice fb d.aA.length fc)]] [(0,0),(1,0),(2,0),(3,0),(4,0),(5,0),(6,0),(7,0),(8,1),(9,2)] (au [0,1] F) ?_
 refine am F (aJ underlying25 F aM F F) (am F (aO 1 underlying3 F F F F) (am F (aF F) (am F (aJ underlying25 F aM F F) (am F (aO 1 underlying3 F F F F) (am F (xE (i:=d.start) underlying56 aM F F (cw (mG 0 F)) sB (mj▸nL) (by rw[List.length_map];exact nL)) (am F (bS underlying3 F F (cw (mG 0 F)) (show(aQ cs)[d.start.toNat]? =some (vN (cs.getD d.start.toNat 0)) by rw[eK nL];simp[nL])) (am F (bE (cs:=[(vI d.vars),vN (cs.getD d.start.toNat 0),nS,nS]) gK aX (by kernel_rfl)) ?_)))))))
 refine bJ F F (aR aX F (fun z3=>⟨au [1,2] F,?_⟩))
 refine bq F F (bj (vs:=[(vI d.vars),vN (cs.getD d.start.toNat 0),nS,nS]) 0 aX F F F F ?_)
 refine bu ?_
 refine ax (ai (TO.qa F (ae (aC (T.dt 4 1 ?_)))))
 refine T.dt 56 1 ?_
 refine ck (fun(k:Nat) ρ O=> ∃(ob fI:Option Addr) (oc fJ:Nat) (qs:List Rec) (fs:List Bool),O=([ak ob oc 56 1 (bO qs),ak fI fJ 4 1 (aU fs),oI z3 25 [(vI d.vars),(vN (cs.getD d.start.toNat 0)),(.slice ob qs.length oc),(.slice fI fs.length fJ)],ak cb cc 3 1 (aQ cs),oI z2 25 [(vI 0),(vI 0),nS,nS],oI z1 25 [(vI d.vars),(vI d.start),(.slice nb d.next.length nc),(.slice fb d.aA.length fc)]]++(bl 3 qs))∧k≤d.next.length∧nums qs=(fH d cs k).1∧fs=(fH d cs k).2∧bZ [(0,(.agg #[(vI d.vars),(vI d.start),(.slice nb d.next.length nc),(.slice fb d.aA.length fc)])),(1,(.pointer (aD z1))),(2,(.pointer (aD z2))),(3,vI 0),(4,(.slice cb d.next.length cc)),(5,vI 0),(6,(.pointer (aD z3))),(7,vI (k:Int))] ρ) (fun k=>d.next.length-k) 0 ?_ ?_
 ·exact⟨none,none,0,0,[],[],F,Nat.zero_le _,F,F,(.of F)⟩
 rintro k ρ O ⟨ob,fI,oc,fJ,qs,fs,rfl,hk,rJ,j8,hH⟩
 obtain⟨eP,rfl⟩:=hH.elim
 clear hH
 refine ax (ai (ah F (ah F (ad (bL underlying56 F) (ad (bI F F) (ae (aw F (fun hc=>?_) (fun hc=>?_))))))))
 ·have e_:k<d.next.length:=by omega
  have Kj:k<cs.length:=by omega
  have wO:qs.length=(fH d cs k).1.length:=by rw[←rJ];simp
  have qp:fs.length=(fH d cs k).1.length:=by rw[j8];exact(iq d cs k).1.symm
  have hqk:=(iq d cs k).2
  have Gw:k<d.aA.length:=by have:=hv.fin;omega
  obtain⟨vb,vc,g1,s1⟩:=h.rows.get e_
  have yw:d.next[k].length≤64:=by
   have:=hv.len _ (List.getElem_mem e_);omega
  have oX: ∀j (hj:j<d.next[k].length),0≤d.next[k][j]∧d.next[k][j].toNat<cs.length:=fun j hj=>by have:=hv.ok _ (List.getElem_mem e_) _ (List.getElem_mem hj);omega
  refine aq (ax (aC (ax (ax ?_))))
  refine T.ds [oI z3 25 [(vI d.vars),(vN (cs.getD d.start.toNat 0)),(.slice ob qs.length oc),(.slice fI fs.length fJ)],ak cb cc 3 1 (aQ cs)] [(0,0),(1,0),(2,0),(3,0),(4,0),(5,0),(6,0),(7,0)] (dN [2,2] [ak ob oc 56 1 (bO qs),ak fI fJ 4 1 (aU fs),oI z3 25 [(vI d.vars),(vN (cs.getD d.start.toNat 0)),(.slice ob qs.length oc),(.slice fI fs.length fJ)],ak cb cc 3 1 (aQ cs),oI z2 25 [(vI 0),(vI 0),nS,nS],oI z1 25 [(vI d.vars),(vI d.start),(.slice nb d.next.length nc),(.slice fb d.aA.length fc)]] (bl 3 qs) F F) ?_
  refine am F (aF F) (am F (aF F) (am F (cq (i:=k) underlying56 aM F F (cw (mG 1 F)) e_ (by rw[List.length_map];exact Kj)) (am F (bS underlying3 F F (cw (mG 1 F)) (eK Kj)) (am F (aJ underlying25 F cU F F) (am F (aO 0 underlying22 F F F F) (am F (bL underlying22 F) (am F (bI F F) ?_)))))))
  refine bu ?_
  refine aw F (fun hc=>?_) (fun hc=>?_)
  ·have tH:cs[k]<qs.length:=by omega
   have JL:fH d cs (k+1)=fH d cs k:=by rw[fH,if_pos (by simp[Kj];omega)]
   refine bn ?_
   refine aH (ah F (ad (ey F F (by omega)) (TO.qa F ?_)))
   skip
   refine ae ?_
   refine⟨k+1,by omega,ob,fI,oc,fJ,qs,fs,F,by omega,?_,?_,(.of F)⟩
   ·rw[JL];exact rJ
   ·rw[JL];exact j8
  have Ip: ¬cs[k]<qs.length:=by omega
  have JM:fH d cs (k+1)=((fH d cs k).1++[(dy cs d.next[k]).map fun c:Nat=>(c:Int)],(fH d cs k).2++[d.aA[k]]):=by rw[fH,if_neg (by simp[Kj];omega)];simp[e_,Gw]
  refine aq (ai (TO.qa F (ae (ax (ai (TO.qa F (ae (aC (T.dt 3 1 ?_)))))))))
  refine ck (fun(j:Nat) ρ O=> ∃(kb:Option Addr) (kc:Nat),O=([ak kb kc 3 1 (aQ ((dy cs d.next[k]).take j)),ak ob oc 56 1 (bO qs),ak fI fJ 4 1 (aU fs),oI z3 25 [(vI d.vars),(vN (cs.getD d.start.toNat 0)),(.slice ob qs.length oc),(.slice fI fs.length fJ)],ak cb cc 3 1 (aQ cs),oI z2 25 [(vI 0),(vI 0),nS,nS],oI z1 25 [(vI d.vars),(vI d.start),(.slice nb d.next.length nc),(.slice fb d.aA.length fc)]]++(bl 3 qs))∧j≤d.next[k].length∧bZ [(0,(.agg #[(vI d.vars),(vI d.start),(.slice nb d.next.length nc),(.slice fb d.aA.length fc)])),(1,(.pointer (aD z1))),(2,(.pointer (aD z2))),(3,vI 0),(4,(.slice cb d.next.length cc)),(5,vI 0),(6,(.pointer (aD z3))),(7,vI (k:Int)),(8,(.slice kb j kc)),(9,vI (j:Int))] ρ) (fun j=>d.next[k].length-j) 0 ?_ ?_
  ·exact⟨none,0,F,Nat.zero_le _,(.of F)⟩
  rintro j ρ O ⟨kb,kc,rfl,hj,hH⟩
  obtain⟨eP,rfl⟩:=hH.elim
  clear hH
  refine ax (ai (ah F (ad (aJ underlying25 F cU F F) (ad (aO 6 underlying22 F F F F) (ah F (ad (cq (i:=k) underlying22 bP F F (aB h.outer) e_ (ut▸e_)) (ad (bS underlying56 F F (aB h.outer) g1) (ad (bL underlying56 F) (ad (bI F F) (ae (aw F (fun hc=>?_) (fun hc=>?_))))))))))))
  ·have pA:j<d.next[k].length:=by omega
   have Y8:=(oX j pA).2
   refine aq (ax (aC (aH (ah F (ah F (ad (aJ underlying25 F cU F F) (ad (aO 6 underlying22 F F F F) (ah F (ad (cq (i:=k) underlying22 bP F F (aB h.outer) e_ (ut▸e_)) (ad (bS underlying56 F F (aB h.outer) g1) (ah F (ad (cq (i:=j) underlying56 aM F F (aB s1) pA (by rw[List.length_map];exact pA)) (ad (bS underlying3 F F (aB s1) (d_ pA)) (ad (xE (i:=d.next[k][j]) underlying56 aM F F (cw (mG 4 F)) (oX j pA).1 (mj▸(oX j pA).2) (by rw[List.length_map];exact(oX j pA).2)) (ad (bS underlying3 F F (cw (mG 4 F)) (eK (oX j pA).2)) (aj F (bN (v:=vN (cs[d.next[k][j].toNat])) underlying56 aM F F F (fun z4=>?_))))))))))))))))))
   refine aj F (bX 1 underlying56 underlying56 aM F F F F (by rw[List.length_map,List.length_take,eO];omega) (by decide) (Src.row (j:=0) F (by simp)) (by simp[dD]) (by omega) (by decide) (by decide) (fun z5 B8=>?_))
   refine TO.qa F (ae (aH (ah F (ad (ey F F (by omega)) (TO.qa F ?_)))))
   refine bM (O':=([ak z5 B8 3 1 ((aQ ((dy cs d.next[k]).take j))++[vN (cs[d.next[k][j].toNat])]),ak ob oc 56 1 (bO qs),ak fI fJ 4 1 (aU fs),oI z3 25 [(vI d.vars),(vN (cs.getD d.start.toNat 0)),(.slice ob qs.length oc),(.slice fI fs.length fJ)],ak cb cc 3 1 (aQ cs),oI z2 25 [(vI 0),(vI 0),nS,nS],oI z1 25 [(vI d.vars),(vI d.start),(.slice nb d.next.length nc),(.slice fb d.aA.length fc)]]++(bl 3 qs))) (ez [1,1,1,1,1,1,1] [ak (aD z4) 1 3 1 [vN (cs[d.next[k][j].toNat])],ak z5 B8 3 1 ((aQ ((dy cs d.next[k]).take j))++[vN (cs[d.next[k][j].toNat])]),ak ob oc 56 1 (bO qs),ak fI fJ 4 1 (aU fs),oI z3 25 [(vI d.vars),(vN (cs.getD d.start.toNat 0)),(.slice ob qs.length oc),(.slice fI fs.length fJ)],ak cb cc 3 1 (aQ cs),oI z2 25 [(vI 0),(vI 0),nS,nS],oI z1 25 [(vI d.vars),(vI d.start),(.slice nb d.next.length nc),(.slice fb d.aA.length fc)]] (bl 3 qs) F F) ?_
   refine ae ?_
   have pX:(dy cs d.next[k]).take (j+1)=(dy cs d.next[k]).take j++[cs[d.next[k][j].toNat]]:=by rw[List.take_succ_eq_append_getElem (by rw[eO];exact pA),wK pA (oX j pA).2]
   exact⟨j+1,by omega,z5,B8,by rw[pX,show aQ ((dy cs d.next[k]).take j++[cs[d.next[k][j].toNat]])=aQ ((dy cs d.next[k]).take j)++[vN (cs[d.next[k][j].toNat])]from List.map_append],by omega,(.of F)⟩
  have Zl: ¬j<d.next[k].length:=by omega
  refine bn ?_
  refine ai (ad (aJ underlying25 F cU F F) (ad (aO 3 underlying22 F F F F) (ah F (aj F (bN (v:=(.slice kb j kc)) underlying22 bP F F F (fun z7=>?_))))))
  refine aj F (bX 2 underlying22 underlying22 bP F F F F (by rw[List.length_map];omega) (by decide) (Src.row (j:=0) F (by simp)) (by simp[dD]) (by omega) (by decide) (by decide) (fun z8 w7=>?_))
  refine ad (aJ underlying25 F cU F F) (aj F (bj (vs:=[(.slice z8 (qs.length+1) w7)]) 4 cU F F F F ?_))
  refine ae ?_
  refine dO [(0,0),(1,0),(2,0),(3,0),(4,0),(5,0),(6,0),(7,1),(8,2),(9,2),(10,2)] ?_
  refine am F (aJ underlying25 F ce F F) (am F (aO 4 underlying23 F F F F) (am F (aJ underlying25 F ce F F) (am F (aO 7 underlying23 F F F F) (am F (aF F) (am F (cq (i:=k) underlying23 dc F F (aB h.aA) Gw (by rw[List.length_map];exact Gw)) (am F (bS underlying4 F F (aB h.aA) (gu Gw)) ?_))))))
  refine bJ F F (bN (v:=.bool d.aA[k]) underlying23 dc F F F (fun uk=>⟨ez [1,1,1,1,1,1,1,1] [ak (aD uk) 1 4 1 [.bool d.aA[k]],ak (aD z7) 1 56 1 [(.slice kb j kc)],ak kb kc 3 1 (aQ ((dy cs d.next[k]).take j)),ak z8 w7 56 1 ((bO qs)++[(.slice kb j kc)]),ak fI fJ 4 1 (aU fs),oI z3 25 [(vI d.vars),(vN (cs.getD d.start.toNat 0)),(.slice z8 (qs.length+1) w7),(.slice fI fs.length fJ)],ak cb cc 3 1 (aQ cs),oI z2 25 [(vI 0),(vI 0),nS,nS],oI z1 25 [(vI d.vars),(vI d.start),(.slice nb d.next.length nc),(.slice fb d.aA.length fc)]] (bl 3 qs) F F,?_⟩))
  refine bq F F (bX 4 underlying23 underlying23 dc F F F F (by rw[List.length_map];omega) (by decide) (Src.row (j:=0) F (by simp)) (by simp[dD]) (by omega) (by decide) (by decide) (fun mM iz=>?_))
  refine bq F F (dG F F (aJ underlying25 F ce F F) ?_)
  refine bq F F (bj (vs:=[(.slice mM (fs.length+1) iz)]) 5 ce F F F F ?_)
  refine bu ?_
  refine aH (ah F (ad (ey F F (by omega)) (TO.qa F ?_)))
  have VS:j=d.next[k].length:=by omega
  have hR:ak kb kc 3 1 (aQ ((dy cs d.next[k]).take j))=Rec.lZ 3 ⟨kb,kc,(dy cs d.next[k]).map fun c:Nat=>(c:Int)⟩:=by
   rw[List.take_of_length_le (by rw[eO];omega)];simp[Rec.lZ,Function.comp_def]
  refine bM (O':=[ak z8 w7 56 1 ((bO qs)++[(.slice kb j kc)]),ak mM iz 4 1 ((aU fs)++[.bool d.aA[k]]),oI z3 25 [(vI d.vars),(vN (cs.getD d.start.toNat 0)),(.slice z8 (qs.length+1) w7),(.slice mM (fs.length+1) iz)],ak cb cc 3 1 (aQ cs),oI z2 25 [(vI 0),(vI 0),nS,nS],oI z1 25 [(vI d.vars),(vI d.start),(.slice nb d.next.length nc),(.slice fb d.aA.length fc)]]++bl 3 (qs++[⟨kb,kc,(dy cs d.next[k]).map fun c:Nat=>(c:Int)⟩])) (by show Sub _ ([ak (aD uk) 1 4 1 [.bool d.aA[k]],ak (aD z7) 1 56 1 [(.slice kb j kc)],ak kb kc 3 1 (aQ ((dy cs d.next[k]).take j)),ak z8 w7 56 1 ((bO qs)++[(.slice kb j kc)]),ak mM iz 4 1 ((aU fs)++[.bool d.aA[k]]),oI z3 25 [(vI d.vars),(vN (cs.getD d.start.toNat 0)),(.slice z8 (qs.length+1) w7),(.slice mM (fs.length+1) iz)],ak cb cc 3 1 (aQ cs),oI z2 25 [(vI 0),(vI 0),nS,nS],oI z1 25 [(vI d.vars),(vI d.start),(.slice nb d.next.length nc),(.slice fb d.aA.length fc)]]++bl 3 qs);rw[hR];exact eB [ak (aD uk) 1 4 1 [.bool d.aA[k]],ak (aD z7) 1 56 1 [(.slice kb j kc)]]) ?_
  refine ae ?_
  refine⟨k+1,by omega,z8,mM,w7,iz,qs++[⟨kb,kc,(dy cs d.next[k]).map fun c:Nat=>(c:Int)⟩],fs++[d.aA[k]],?_,by omega,?_,?_,(.of F)⟩
  ·simp[Rec.val,eO,VS]
  ·rw[JM,←rJ];simp
  ·rw[JM,j8]
 have AB: ¬k<d.next.length:=by omega
 refine bn ?_
 refine ax ?_
 have Gs:k=d.next.length:=by omega
 rw[Gs]at rJ j8
 have wO:qs.length=(quo d cs).next.length:=by rw[show qs.length=(nums qs).length by simp,rJ];rfl
 obtain rfl:fs=(quo d cs).aA:=j8
 rw[wO]
 refine aH (ad (cN 2 underlying25 F aX F F F) ?_)
 have Vc:=fun(w1:World) (hI:Inv w ([ak ob oc 56 1 (bO qs),ak fI fJ 4 1 (aU (quo d cs).aA),oI z3 25 [(vI d.vars),(vN (cs.getD d.start.toNat 0)),(.slice ob ((quo d cs).next.length) oc),(.slice fI ((quo d cs).aA.length) fJ)],ak cb cc 3 1 (aQ cs),oI z2 25 [(vI 0),(vI 0),nS,nS],oI z1 25 [(vI d.vars),(vI d.start),(.slice nb d.next.length nc),(.slice fb d.aA.length fc)]]++(bl 3 qs)) w1)=>(haveI:=Inv.tab (P:=Tryz.prog) hI;JP w1 (quo d cs) ob fI oc fJ (bO qs) ⟨hI.eV (mG 0 F),(show nums qs=(quo d cs).next from rJ)▸hI.R4 (fun q hq=>List.mem_append_right _ (List.mem_map_of_mem (f:=Rec.lZ 3) hq)),hI.eV (mG 1 F)⟩ U_ Va)
 refine aj F (aI UO (aE Vc) F ?_)
 clear Vc
 rintro v O' ⟨N,rfl,oF,oG,kI,kJ,JN,rfl,rfl,Em⟩
 refine bM (O':=([ak oF oG 56 1 (bO JN),ak kI kJ 4 1 (aU (cO (quo d cs)).aA),ak ob oc 56 1 (bO qs),ak fI fJ 4 1 (aU (quo d cs).aA),oI z3 25 [(vI d.vars),(vN (cs.getD d.start.toNat 0)),(.slice ob ((quo d cs).next.length) oc),(.slice fI ((quo d cs).aA.length) fJ)],ak cb cc 3 1 (aQ cs),oI z2 25 [(vI 0),(vI 0),nS,nS],oI z1 25 [(vI d.vars),(vI d.start),(.slice nb d.next.length nc),(.slice fb d.aA.length fc)]]++((bl 3 JN)++(bl 3 qs)))) (eB []) ?_
 refine ad (bm (vs:=_) F F) (ad (bm (vs:=_) F F) (aj F (bj (vs:=[(vI (cO (quo d cs)).vars),(vI (cO (quo d cs)).start),(.slice oF ((cO (quo d cs)).next.length) oG),(.slice kI ((cO (quo d cs)).aA.length) kJ)]) 6 aX F F F F ?_)))
 refine TO.qa F (ae (az (ao ?_)))
 refine iJ (vI 0) (i:=6) Tryz.results35 underlying25 F aX F F F F ?_
 exact⟨[ak oF oG 56 1 (bO JN),ak kI kJ 4 1 (aU (cO (quo d cs)).aA)]++bl 3 JN,eB ([ak ob oc 56 1 (bO qs),ak fI fJ 4 1 (aU (quo d cs).aA),oI z3 25 [(vI d.vars),(vN (cs.getD d.start.toNat 0)),(.slice ob ((quo d cs).next.length) oc),(.slice fI ((quo d cs).aA.length) fJ)],ak cb cc 3 1 (aQ cs),oI z2 25 [(vI (cO (quo d cs)).vars),(vI (cO (quo d cs)).start),(.slice oF ((cO (quo d cs)).next.length) oG),(.slice kI ((cO (quo d cs)).aA.length) kJ)],oI z1 25 [(vI d.vars),(vI d.start),(.slice nb d.next.length nc),(.slice fb d.aA.length fc)]]++bl 3 qs),oF,oG,kI,kJ,JN,F,F,Em⟩
end Go.Proofs.YtgdbfideeeegmaaGreatDoor

namespace Go.Proofs.YtgdbfideeeegmaaGreatDoor
open Go.Lx Go.RowKit _root_.Go.Proofs.Tryz
theorem XI (w:World) [cG Tryz.prog w] (d:bY) (nb fb:Option Addr) (nc fc:Nat) (vs:List Value) (h:eA w d nb vs fb) (hb:d.next.length<9223372036854775807) (jy: ∀r∈d.next,r.length<9223372036854775807) (j6:d.aA.length<9223372036854775807) (hn:Valid d→d.next.length<10000):
  bs Tryz.prog 23 [.agg (cB d nb nc fb fc).toArray] w fun v N=> ∃oF oG kI kJ qs,v=.tuple #[.agg (cB (pV d) oF oG kI kJ).toArray,.int .i64 (bW d:Int)]∧N=[ak oF oG 56 1 (bO qs),ak kI kJ 4 1 (aU (pV d).aA)]++bl 3 qs∧nums qs=(pV d).next:=by
 unfold pV
 by_cases he:bW d=0
 ·have hv:=dr.1 he
  obtain⟨q1,q2⟩:=zw hv d.next.length
  rw[he,if_pos F]
  exact U9 w d nb fb nc fc vs h hv (hn hv) q1 (by have:=hn hv;omega)
 ·rw[if_neg he]
  refine(fX 56 1 (fX 4 1 (QQ w d nb fb nc fc vs h hb jy j6 he))).mono ?_
  rintro v N ⟨O2,rfl,O3,rfl,rfl,rfl⟩
  exact⟨none,0,none,0,[],F,F,F⟩
theorem U2 (w:World) [cG Tryz.prog w] (d:bY) (nb fb:Option Addr) (nc fc:Nat) (vs:List Value) (h:eA w d nb vs fb) (hb:d.next.length<9223372036854775807) (jy: ∀r∈d.next,r.length<9223372036854775807) (j6:d.aA.length<9223372036854775807) (hn:Valid d→d.next.length<10000):
  bs Tryz.prog 35 [.agg (cB d nb nc fb fc).toArray] w fun v N=> ∃oF oG kI kJ qs,v=.tuple #[.agg (cB (pV d) oF oG kI kJ).toArray,.int .i64 (bW d:Int)]∧N=[ak oF oG 56 1 (bO qs),ak kI kJ 4 1 (aU (pV d).aA)]++bl 3 qs∧nums qs=(pV d).next:=by
 unfold pV
 by_cases he:bW d=0
 ·have hv:=dr.1 he
  obtain⟨q1,q2⟩:=zw hv d.next.length
  rw[he,if_pos F]
  exact QU w d nb fb nc fc vs h hv (hn hv) q1 (by have:=hn hv;omega)
 ·rw[if_neg he]
  refine(fX 56 1 (fX 4 1 (Mm w d nb fb nc fc vs h hb jy j6 he))).mono ?_
  rintro v N ⟨O2,rfl,O3,rfl,rfl,rfl⟩
  exact⟨none,0,none,0,[],F,F,F⟩
end Go.Proofs.YtgdbfideeeegmaaGreatDoor

namespace Go.Lx
open Go.RowKit
structure ub where
 d:bY
 nb:Option Addr
 fb:Option Addr
 nc:Nat
 fc:Nat
 vs:List Value
def ub.cells (r:ub):List Value:=cB r.d r.nb r.nc r.fb r.fc
abbrev kL (L:List ub):List Value:=L.flatMap ub.cells
theorem gS: ∀L:List ub,(kL L).length=L.length*4
 | []=>rfl
 |q::rs=>by
  have:=gS rs
  simp only[kL]at this
  simp only[kL,List.flatMap_cons,List.length_append,this,List.length_cons,ub.cells,List.length_nil]
  omega
theorem lw: ∀ {L:List ub} {i:Nat} (h:i<L.length) {j:Nat},j<4→(kL L)[i*4+j]? =(L[i].cells)[j]?
 |q::rs,0,h,j,hj=>by
  simp only[kL,List.flatMap_cons]
  rw[List.getElem?_append_left (by simp[ub.cells];omega)]
  simp
 |q::rs,i+1,h,j,hj=>by
  have ih:=lw (L:=rs) (i:=i) (by simpa using h) hj
  simp only[kL,List.flatMap_cons]
  rw[List.getElem?_append_right (by simp[ub.cells];omega)]
  simp only[kL]at ih
  rw[show(i+1)*4+j-q.cells.length=i*4+j by simp[ub.cells];omega,ih]
  simp
def l9 (d:bY):Bool:=decide (40<d.next.length)||decide (40<d.aA.length)||d.next.any fun r=>decide (100<r.length)
theorem Ar {d:bY} (h: ¬l9 d=true):d.next.length≤40∧d.aA.length≤40∧ ∀r∈d.next,r.length≤100:=by
 simp only[l9,Bool.or_eq_true,decide_eq_true_eq,List.any_eq_true,not_or,not_exists,not_and]at h
 obtain⟨⟨h1,h2⟩,h3⟩:=h
 exact⟨by omega,by omega,fun r hr=>by have:=h3 r hr;omega⟩
theorem uK {α:Type} {L:List α} {f:α→Bool} {i:Nat} (hi:i<L.length) (h:(L.take i).any f=false) (h2:f L[i]=false):(L.take (i+1)).any f=false:=by
 rw[List.take_succ_eq_append_getElem hi,List.any_append,h];simp[h2]
theorem uJ {α:Type} {L:List α} {f:α→Bool} {i:Nat} (hi:i<L.length) (h:f L[i]=true):L.any f=true:=
 List.any_eq_true.2 ⟨_,List.getElem_mem hi,h⟩
end Go.Lx
namespace Go.Lx
end Go.Lx
namespace Go.Lx
end Go.Lx

namespace Go.Proofs.YtgdbfideeeegmaaGreatDoor
open Go.Lx Go.RowKit _root_.Go.Proofs.Tryz
theorem E2 (w:World) [cG Tryz.prog w] (d e:bY) (B2 xh B3 l8:Option Addr) (E3 zK E4 mQ:Nat) (vs us:List Value) (h1:eA w d B2 vs B3) (h2:eA w e xh us l8) (hb:d.next.length<9223372036854775807) (jy: ∀r∈d.next,r.length<9223372036854775807) (j6:d.aA.length<9223372036854775807):
  bs Tryz.prog 16 [.agg (cB d B2 E3 B3 E4).toArray,.agg (cB e xh zK l8 mQ).toArray] w fun v N=>v=.bool (decide (d=e))∧N=[]:=
 (rk (zL w d e B2 xh B3 l8 E3 zK E4 mQ vs us h1 h2 hb jy j6)).mono fun v N ⟨h1,O2,h2,_⟩=>⟨h2,h1⟩
theorem E5 (w:World) [cG Tryz.prog w] (d:bY) (B2 xh B3 l8:Option Addr) (E3 zK E4 mQ:Nat) (vs us:List Value) (h1:eA w d B2 vs B3) (h2:eA w d xh us l8) (hb:d.next.length<9223372036854775807) (jy: ∀r∈d.next,r.length<9223372036854775807) (j6:d.aA.length<9223372036854775807):
  bs Tryz.prog 16 [.agg (cB d B2 E3 B3 E4).toArray,.agg (cB d xh zK l8 mQ).toArray] w fun v N=>v=.bool true∧N=[]:=
 (E2 w d d B2 xh B3 l8 E3 zK E4 mQ vs us h1 h2 hb jy j6).mono fun v N ⟨h1,h2⟩=>⟨h1.trans (congrArg Value.bool (decide_eq_true F)),h2⟩
theorem Rs (w:World) [cG Tryz.prog w] (b:Option Addr) (c:Nat) (L:List ub) (hS:Sl w b (kL L)) (hD: ∀r∈L,eA w r.d r.nb r.vs r.fb) (hL:L.length<9223372036854775807) (hB: ∀r∈L,r.d.next.length<9223372036854775807):
  bs Tryz.prog 9 [.slice b L.length c] w fun v N=>v=.bool (L.any fun r=>l9 r.d)∧N=[]:=by
 refine av func9 F ntmps9 F ?_
 refine ai (TO.qa F (ae (ax (ai (TO.qa F (ae (aC ?_)))))))
 refine ck (fun(i:Nat) ρ O=>O=[]∧i≤L.length∧(L.take i).any (fun r=>l9 r.d)=false∧bZ [(0,(.slice b L.length c)),(3,vI (i:Int))] ρ) (fun i=>L.length-i) 0 ?_ ?_
 ·exact⟨F,Nat.zero_le _,F,⟨F,F,trivial⟩⟩
 rintro i ρ O ⟨rfl,hi,jN,hH⟩
 obtain⟨eP,rfl⟩:=hH.elim
 clear hH
 refine ax (ai (ah F (ah F (ad (bL E6 F) (ad (bI F F) (ae (aw F (fun hc=>?_) (fun hc=>?_))))))))
 ·have mH:i<L.length:=by omega
  refine aq (ax (aC (ax (ai (ah F (ah F (ad (db (i:=i) E6 aX F F (aB hS) mH (by rw[gS];omega)) (ad (bG cy F cU F F (aB hS) (by rw[gS];omega)) (ad (bS dB F F (aB hS) (show(kL L)[i*4+2]? =some (.slice L[i].nb L[i].d.next.length L[i].nc) by rw[lw mH (by decide)];rfl)) (ad (bL dB F) ?_))))))))))
  by_cases h1:(L[i].d.next.length:Int)>40
  ·refine ad (ar (fw F F) (decide_eq_true h1)) ?_
   refine ah F (ay F F (ay F F (ay F F (ay F F (ay F F (ay F F (ay F F ?_)))))))
   refine ad (bt F F) (ae ?_)
   refine bg F ?_
   refine ai (TO.qa F (ae (az ?_)))
   refine aG (.bool true) Tryz.results9 F ?_
   exact⟨congrArg Value.bool (uJ mH (by simp only[l9,Bool.or_eq_true,decide_eq_true_eq];exact .inl (.inl (by omega)))).symm,F⟩
  refine ad (ar (fw F F) (decide_eq_false h1)) (ah F (ap F F (aF F) (ap F F (aF F) (ap F F (db (i:=i) E6 aX F F (aB hS) mH (by rw[gS];omega)) (ap F F (bG cy F ce F F (aB hS) (by rw[gS];omega)) (ap F F (bS dF F F (aB hS) (show(kL L)[i*4+3]? =some (.slice L[i].fb L[i].d.aA.length L[i].fc) by rw[lw mH (by decide)];rfl)) (ap F F (bL dF F) ?_)))))))
  by_cases h2:(L[i].d.aA.length:Int)>40
  ·refine ap F F (ar (fw F F) (decide_eq_true h2)) ?_
   refine ad (aZ F F) (ae ?_)
   refine bg F ?_
   refine ai (TO.qa F (ae (az ?_)))
   refine aG (.bool true) Tryz.results9 F ?_
   exact⟨congrArg Value.bool (uJ mH (by simp only[l9,Bool.or_eq_true,decide_eq_true_eq];exact .inl (.inr (by omega)))).symm,F⟩
  refine ap F F (ar (fw F F) (decide_eq_false h2)) (ad (aZ F F) (ae (aL F (aq (ai (TO.qa F (ae (aC ?_))))))))
  refine ck (fun(s:Nat) ρ O=>O=[]∧s≤L[i].d.next.length∧(L[i].d.next.take s).any (fun r=>decide (100<r.length))=false∧bZ [(0,(.slice b L.length c)),(3,vI (i:Int)),(4,vI (s:Int))] ρ) (fun s=>L[i].d.next.length-s) 0 ?_ ?_
  ·exact⟨F,Nat.zero_le _,F,⟨F,F,F,trivial⟩⟩
  rintro s ρ O ⟨rfl,hs,Mr,hH⟩
  obtain⟨eP,rfl⟩:=hH.elim
  clear hH
  refine ax (ai (ah F (ah F (ah F (ad (db (i:=i) E6 aX F F (aB hS) mH (by rw[gS];omega)) (ad (bG cy F cU F F (aB hS) (by rw[gS];omega)) (ad (bS dB F F (aB hS) (show(kL L)[i*4+2]? =some (.slice L[i].nb L[i].d.next.length L[i].nc) by rw[lw mH (by decide)];rfl)) (ad (bL dB F) (ad (bI F F) (ae (aw F (fun hc=>?_) (fun hc=>?_))))))))))))
  ·have kV:s<L[i].d.next.length:=by omega
   obtain⟨vb,vc,g1,s1⟩:=(hD _ (List.getElem_mem mH)).rows.get kV
   have hB9:=hB _ (List.getElem_mem mH)
   refine aq (ax (aC (ai (ah F (ah F (ad (db (i:=i) E6 aX F F (aB hS) mH (by rw[gS];omega)) (ad (bG cy F cU F F (aB hS) (by rw[gS];omega)) (ad (bS dB F F (aB hS) (show(kL L)[i*4+2]? =some (.slice L[i].nb L[i].d.next.length L[i].nc) by rw[lw mH (by decide)];rfl)) (ah F (ad (cq (i:=s) dB bP F F (aB (hD _ (List.getElem_mem mH)).outer) kV (by rw[(hD _ (List.getElem_mem mH)).rows.1];exact kV)) (ad (bS bT F F (aB (hD _ (List.getElem_mem mH)).outer) g1) (ad (bL bT F) (ad (fw F F) (ae (aw F (fun hc=>?_) (fun hc=>?_))))))))))))))))
   ·have X1:L[i].d.next[s].length>100:=by omega
    refine ai (TO.qa F (ae (az ?_)))
    refine aG (.bool true) Tryz.results9 F ?_
    exact⟨congrArg Value.bool (uJ mH (by simp only[l9,Bool.or_eq_true,decide_eq_true_eq];exact .inr (uJ kV (by simp;omega)))).symm,F⟩
   have X2: ¬L[i].d.next[s].length>100:=by omega
   refine aq (aH (ah F (ad (ey F F (by omega)) (TO.qa F (ae ?_)))))
   exact⟨s+1,by omega,F,by omega,uK kV Mr (by simp;omega),⟨F,F,F,trivial⟩⟩
  have Ms: ¬s<L[i].d.next.length:=by omega
  refine bn ?_
  refine aH (ah F (ad (ey F F (by omega)) (TO.qa F (ae ?_))))
  have Zt:l9 L[i].d=false:=by
   simp only[l9,Bool.or_eq_false_iff,decide_eq_false_iff_not]
   exact⟨⟨by omega,by omega⟩,by rwa[List.take_of_length_le (by omega)]at Mr⟩
  exact⟨i+1,by omega,F,by omega,uK mH jN Zt,⟨F,F,trivial⟩⟩
 have Kk: ¬i<L.length:=by omega
 refine bn ?_
 refine ai (TO.qa F (ae (az ?_)))
 refine aG (.bool false) Tryz.results9 F ?_
 exact⟨congrArg Value.bool (by rw[List.take_of_length_le (by omega)]at jN;exact jN.symm),F⟩
end Go.Proofs.YtgdbfideeeegmaaGreatDoor

namespace Go.Lx
def i_ (d:bY) (s:Nat):Nat:=(fj d d.next.length).getD s 0
theorem nl {d:bY} (hv:Val d) {s t:Nat} (hs:s<d.next.length) (ht:t<d.next.length):i_ d s=i_ d t↔ ∀u,Wd d u→ ¬dst d s t u:=L5 hv hs ht
theorem Ga {d:bY} (hv:Val d) {s t:Nat} (hs:s<d.next.length) (ht:t<d.next.length) (h:i_ d s=i_ d t):dK d s=dK d t:=by
 have:=(nl hv hs ht).1 h [] (fun x hx=>by cases hx)
 exact Classical.not_not.1 this
theorem Ds {d:bY} (hv:Val d) {s t x:Nat} (hs:s<d.next.length) (ht:t<d.next.length) (hx:x<cJ d) (h:i_ d s=i_ d t):i_ d (dJ d s x)=i_ d (dJ d t x):=by
 rw[nl hv (mC hv hs hx) (mC hv ht hx)]
 intro u hu hd
 exact(nl hv hs ht).1 h (x::u) (fun y hy=>by rcases List.mem_cons.1 hy with rfl|hy;exact hx;exact hu y hy) hd
theorem EU {d:bY} {cs:List Nat} (hl:cs.length=d.next.length) (hc:qW cs=cs): ∀k,k≤d.next.length→ ∀c,c<(fH d cs k).1.length→ ∃s,s<k∧cs.getD s 0=c∧(fH d cs k).1[c]? =some ((dy cs (d.next.getD s [])).map fun c:Nat=>(c:Int))∧(fH d cs k).2[c]? =some (dK d s)
 |0,_,c,h=>by simp[fH]at h
 |k+1,hk,c,h=>by
  have ih:=EU hl hc k (by omega)
  have ie:=iq d cs k
  by_cases hn:cs.getD k 0<(fH d cs k).1.length
  ·rw[fH,if_pos hn]at h⊢
   obtain⟨s,h1,h2⟩:=ih c h
   exact⟨s,by omega,h2⟩
  ·rw[fH,if_neg hn]at h⊢
   by_cases mj:c<(fH d cs k).1.length
   ·obtain⟨s,h1,h2,h3,h4⟩:=ih c mj
    exact⟨s,by omega,h2,by rw[List.getElem?_append_left mj];exact h3,by rw[List.getElem?_append_left (by omega)];exact h4⟩
   ·have Vq:c=(fH d cs k).1.length:=by simp at h;omega
    refine⟨k,by omega,?_,?_,?_⟩
    ·have h1:=sq (l:=cs) hl hc.symm k (by omega)
     have h2:=sq (l:=cs) hl hc.symm (k+1) hk
     have n7:k<cs.length:=by omega
     have hg:=List.getElem?_eq_getElem n7
     have Rm:cs.getD k 0=ix cs[k] (dd cs):=by
      have:=je hg
      rw[hc]at this
      rw[List.getD_eq_getElem?_getD,this];rfl
     have Ay:dd (cs.take (k+1))<+:dd cs:=by
      conv=>rhs;rw[←List.take_append_drop (k+1) cs]
      rw[s8];exact eY _ _
     have hm:cs[k]∈dd (cs.take (k+1)):=ii.2 (by rw[List.take_succ_eq_append_getElem n7];exact List.mem_append_right _ (List.mem_singleton.2 F))
     have eU:=so hm
     rw[Rm,fM Ay hm]
     rw[Rm,fM Ay hm]at hn
     rw[fH,if_neg (by rw[Rm,fM Ay hm];exact hn)]at h2
     simp at h2
     omega
    ·rw[Vq,List.getElem?_append_right (Nat.le_refl _)];simp
    ·rw[Vq,ie.1,List.getElem?_append_right (Nat.le_refl _)];simp[dK]
def ol (d:bY):bY:=quo d (fj d d.next.length)
theorem om {d:bY} (hv:Val d):Val (ol d):=(L6 hv d.next.length).1
theorem Dt {d:bY} (hv:Valid d):Valid (ol d):=(zw hv d.next.length).1
theorem JC {d:bY} (hv:Val d) {s:Nat} (hs:s<d.next.length):i_ d s<(ol d).next.length:=by
 rw[ol,EQ (dw d _) (mF d _)]
 exact Jo (mF d _) (EP hs)
theorem EV {d:bY} (hv:Val d) {c:Nat} (hc:c<(ol d).next.length): ∃s,s<d.next.length∧i_ d s=c∧dK (ol d) c=dK d s∧ ∀x,x<cJ d→dJ (ol d) c x=i_ d (dJ d s x):=by
 obtain⟨s,h1,h2,h3,h4⟩:=EU (dw d d.next.length) (mF d _) d.next.length (Nat.le_refl _) c hc
 refine⟨s,h1,h2,?_,?_⟩
 ·show(fH d (fj d d.next.length) d.next.length).2.getD c false=_
  rw[List.getD_eq_getElem?_getD,h4];rfl
 ·intro x hx
  have sC:(ol d).next.getD c []=(dy (fj d d.next.length) (d.next.getD s [])).map fun c:Nat=>(c:Int):=by
   show(fH d (fj d d.next.length) d.next.length).1.getD c []=_
   rw[List.getD_eq_getElem?_getD,h3];rfl
  have Xz:(d.next.getD s []).length=cJ d:=by simp[h1];exact hv.len _ (List.getElem_mem h1)
  have rr:x<(d.next.getD s []).length:=by omega
  have e1:(d.next.getD s []).getD x 0=(d.next.getD s [])[x]:=by rw[List.getD_eq_getElem?_getD,List.getElem?_eq_getElem rr];rfl
  rw[dJ,sC,List.getD_eq_getElem?_getD,List.getElem?_map,dy,List.getElem?_map,List.getElem?_eq_getElem rr]
  show(((fj d d.next.length).getD (d.next.getD s [])[x].toNat 0:Nat):Int).toNat=i_ d (dJ d s x)
  rw[Int.toNat_natCast,i_,dJ,e1]
theorem s_ {d:bY} (hv:Val d) {s x:Nat} (hs:s<d.next.length) (hx:x<cJ d):dJ (ol d) (i_ d s) x=i_ d (dJ d s x):=by
 obtain⟨s',h1,h2,_,h4⟩:=EV hv (JC hv hs)
 rw[h4 x hx]
 exact Ds hv h1 hs hx h2
theorem wD {d:bY} (hv:Val d) {s:Nat} (hs:s<d.next.length):dK (ol d) (i_ d s)=dK d s:=by
 obtain⟨s',h1,h2,h3,_⟩:=EV hv (JC hv hs)
 rw[h3];exact Ga hv h1 hs h2
theorem JD {d:bY} (hv:Val d) {s:Nat} (hs:s<d.next.length): ∀w,Wd d w→runN (ol d) (i_ d s) w=i_ d (runN d s w):=by
 refine nr (fun _=>rfl) ?_
 intro w x ih hw
 have G0:Wd d w:=fun y hy=>hw y (by simp[hy])
 rw[eJ,eJ,ih G0,s_ hv (j7 hv hs w G0) (hw x (by simp))]
theorem ra (d:bY):(ol d).start.toNat=i_ d d.start.toNat:=by
 show(((fj d d.next.length).getD d.start.toNat 0:Nat):Int).toNat=_
 rw[Int.toNat_natCast];rfl
theorem pr {d:bY} (hv:Val d): ∃r,order d=d.start.toNat::r:=by
 have hp:=pt d 0 d.next.length (Nat.zero_le _)
 obtain⟨r,hr⟩:=hp
 exact⟨r,hr.symm⟩
theorem ta {d:bY} (hv:Val d):Val (cO d):=by
 obtain⟨r,hr⟩:=pr hv
 have hl:=pB hv
 have G_:0<(order d).length:=by rw[hr];simp
 refine⟨hv.v0,hv.v6,?_,?_,Int.le_refl _,?_,?_,?_⟩
 ·simpa[cO]using G_
 ·simp[cO]
 ·show(0:Int)<((cO d).next.length:Nat)
  simp only[cO,List.length_map];omega
 ·intro r hr
  obtain⟨o,ho,rfl⟩:=List.mem_map.1 hr
  rw[List.length_map,BP];rfl
 ·intro r hr x hx
  obtain⟨o,ho,rfl⟩:=List.mem_map.1 hr
  obtain⟨t,ht,rfl⟩:=List.mem_map.1 hx
  refine⟨Int.natCast_nonneg _,?_⟩
  have:=so (nT hv o ho t ht)
  simp only[cO,List.length_map];omega
theorem Du {d:bY} (hv:Val d) {s x:Nat} (hs:s∈order d) (hx:x<cJ d):dJ (cO d) (ix s (order d)) x=ix (dJ d s x) (order d):=by
 have hg:=pq hs
 have sC:(cO d).next.getD (ix s (order d)) []=(li d s).map fun t=>((ix t (order d):Nat):Int):=by
  show((order d).map fun o=>(li d o).map fun t=>((ix t (order d):Nat):Int)).getD _ []=_
  rw[List.getD_eq_getElem?_getD,List.getElem?_map,hg];rfl
 rw[dJ,sC,List.getD_eq_getElem?_getD,List.getElem?_map,sr hx]
 show((ix (dJ d s x) (order d):Nat):Int).toNat=_
 rw[Int.toNat_natCast]
theorem Gb {d:bY} {s:Nat} (hs:s∈order d):dK (cO d) (ix s (order d))=dK d s:=by
 show((order d).map fun o=>d.aA.getD o false).getD _ false=_
 rw[List.getD_eq_getElem?_getD,List.getElem?_map,pq hs];rfl
theorem yi {d:bY} (hv:Val d) {s:Nat} (hs:s∈order d): ∀w,Wd d w→runN d s w∈order d:=by
 refine nr (fun _=>hs) ?_
 intro w x ih hw
 rw[eJ]
 exact nT hv _ (ih fun y hy=>hw y (by simp[hy])) _ (List.mem_of_getElem? (sr (hw x (by simp))))
theorem Gc {d:bY} (hv:Val d) {s:Nat} (hs:s∈order d): ∀w,Wd d w→runN (cO d) (ix s (order d)) w=ix (runN d s w) (order d):=by
 refine nr (fun _=>rfl) ?_
 intro w x ih hw
 have G0:Wd d w:=fun y hy=>hw y (by simp[hy])
 rw[eJ,eJ,ih G0,Du hv (yi hv hs w G0) (hw x (by simp))]
theorem yj {d:bY} (hv:Val d):d.start.toNat∈order d:=by
 obtain⟨r,hr⟩:=pr hv
 rw[hr];simp
theorem JE {d:bY} (hv:Val d):ix d.start.toNat (order d)=0:=by
 obtain⟨r,hr⟩:=pr hv
 rw[hr];simp[ix]
def h_ (d:bY) (w:List Nat):Bool:=dK d (runN d d.start.toNat w)
theorem dH {d:bY} (hv:Val d):d.start.toNat<d.next.length:=by have:=hv.s0;have:=hv.s1;omega
theorem yk {d:bY} (hv:Val d) {w:List Nat} (hw:Wd d w):h_ (cO d) w=h_ d w:=by
 have h:=Gc hv (yj hv) w hw
 rw[JE hv]at h
 show dK (cO d) (runN (cO d) 0 w)=_
 rw[h,Gb (yi hv (yj hv) w hw)];rfl
theorem JF {d:bY} (hv:Val d) {w:List Nat} (hw:Wd d w):h_ (ol d) w=h_ d w:=by
 unfold h_
 rw[ra,JD hv (dH hv) w hw,wD hv (j7 hv (dH hv) w hw)]
theorem JG {d:bY} (hv:Val d):Val (fY d):=ta (om hv)
theorem xr {d:bY} (hv:Val d) (h:(order d).length≤4096):Valid (cO d):=⟨ta hv,by simpa[cO]using h⟩
theorem BQ {d:bY} (hv:Valid d):Valid (cO d):=xr hv (Nat.le_trans (pB hv.toVal) hv.n4)
theorem lx {d:bY} (hv:Valid d):Valid (fY d):=BQ (Dt hv)
theorem uM {d:bY} (hv:Val d) {w:List Nat} (hw:Wd d w):h_ (fY d) w=h_ d w:=
 (yk (om hv) hw).trans (JF hv hw)
inductive ja (ρ:Nat→Nat→Prop):List Nat→List Nat→Prop
 |nil:ja ρ [] []
 |cons {a b l m}:ρ a b→ja ρ l m→ja ρ (a::l) (b::m)
theorem ja.append {ρ:Nat→Nat→Prop} {l m l' m':List Nat} (h:ja ρ l m) (h':ja ρ l' m'):ja ρ (l++l') (m++m'):=by
 induction h with
 |nil=>exact h'
 |cons h1 _ ih=>exact .cons h1 ih
theorem ja.len {ρ:Nat→Nat→Prop} {l m:List Nat} (h:ja ρ l m):l.length=m.length:=by
 induction h with
 |nil=>rfl
 |cons _ _ ih=>simp[ih]
theorem ja.get {ρ:Nat→Nat→Prop} {l m:List Nat} (h:ja ρ l m): ∀ {i a b:Nat},l[i]? =some a→m[i]? =some b→ρ a b:=by
 induction h with
 |nil=>intro i a b h;simp at h
 |cons h1 _ ih=>
  intro i a b ha hb
  cases i with
  |zero=>simp at ha hb;subst ha;subst hb;exact h1
  |succ i=>exact ih (by simpa using ha) (by simpa using hb)
section
variable {ρ:Nat→Nat→Prop}
def wE (ρ:Nat→Nat→Prop):Prop:= ∀a b a' b',ρ a b→ρ a' b'→(a=a'↔b=b')
theorem ja.mem (ho:wE ρ) {l m:List Nat} (h:ja ρ l m) {a b:Nat} (xe:ρ a b):a∈l↔b∈m:=by
 induction h with
 |nil=>simp
 |cons h1 _ ih=>rw[List.mem_cons,List.mem_cons,ih,ho _ _ _ _ xe h1]
theorem ja.ix (ho:wE ρ) {l m:List Nat} (h:ja ρ l m) {a b:Nat} (xe:ρ a b):Lx.ix a l=Lx.ix b m:=by
 induction h with
 |nil=>rfl
 | @cons x y l m h1 _ ih=>
  simp only[Lx.ix,ih]
  by_cases e:a=x
  ·rw[if_pos e,if_pos ((ho _ _ _ _ xe h1).1 e)]
  ·rw[if_neg e,if_neg (fun h=>e ((ho _ _ _ _ xe h1).2 h))]
theorem ja.add (ho:wE ρ) {l m:List Nat} (h:ja ρ l m) {a b:Nat} (xe:ρ a b):ja ρ (Lx.add l a) (Lx.add m b):=by
 unfold Lx.add
 by_cases e:a∈l
 ·rw[if_pos e,if_pos ((h.mem ho xe).1 e)];exact h
 ·rw[if_neg e,if_neg (fun h9=>e ((h.mem ho xe).2 h9))];exact h.append (.cons xe .nil)
theorem ja.foldl (ho:wE ρ) {xs ys:List Nat} (hx:ja ρ xs ys): ∀ {l m:List Nat},ja ρ l m→ja ρ (xs.foldl Lx.add l) (ys.foldl Lx.add m):=by
 induction hx with
 |nil=>intro l m h;exact h
 |cons h1 _ ih=>intro l m h;exact ih (h.add ho h1)
theorem ja.map {f g:Nat→Nat}: ∀(l:List Nat),(∀x∈l,ρ (f x) (g x))→ja ρ (l.map f) (l.map g)
 | [],_=>.nil
 |x::l,h=>.cons (h x (by simp)) (ja.map l fun y hy=>h y (by simp[hy]))
structure su (ρ:Nat→Nat→Prop) (p q:bY):Prop where
 vars:p.vars=q.vars
 one:wE ρ
 start:ρ p.start.toNat q.start.toNat
 step: ∀a b x,ρ a b→x<cJ p→ρ (dJ p a x) (dJ q b x)
 fin: ∀a b,ρ a b→dK p a=dK q b
theorem su.li {p q:bY} (h:su ρ p q) {a b:Nat} (xe:ρ a b):ja ρ (li p a) (li q b):=by
 unfold Lx.li
 rw[←h.vars]
 exact ja.map _ fun x hx=>h.step a b x xe (List.mem_range.1 hx)
theorem su.Zd {p q:bY} (h:su ρ p q): ∀i,ja ρ (ew p i) (ew q i)
 |0=>.cons h.start .nil
 |i+1=>by
  have ih:=h.Zd i
  have hl:=ih.len
  rw[ew,ew,←hl]
  by_cases hi:i<(ew p i).length
  ·rw[if_pos hi,if_pos hi]
   have Fj:i<(ew q i).length:=by omega
   have g1:=List.getElem?_eq_getElem hi
   have g2:=List.getElem?_eq_getElem Fj
   have e1:(ew p i).getD i 0=(ew p i)[i]:=by rw[List.getD_eq_getElem?_getD,g1];rfl
   have e2:(ew q i).getD i 0=(ew q i)[i]:=by rw[List.getD_eq_getElem?_getD,g2];rfl
   rw[e1,e2]
   exact(h.li (ih.get g1 g2)).foldl h.one ih
  ·rw[if_neg hi,if_neg hi];exact ih
theorem su.order {p q:bY} (h:su ρ p q) (hp:Val p) (hq:Val q):ja ρ (order p) (order q):=by
 obtain⟨N,h1,h2,_⟩:=wF hp
 have e1:=pu h2 h1
 have hb:=h.Zd N
 have Ze:(ew q N).length=N:=by rw[←hb.len];exact h2
 have hNq:N≤q.next.length:=by rw[←Ze];exact pv hq N
 rw[e1,pu Ze hNq]
 exact hb
theorem su.cO {p q:bY} (h:su ρ p q) (hp:Val p) (hq:Val q):cO p=cO q:=by
 have ho:=h.order hp hq
 have rows: ∀ {l m:List Nat},ja ρ l m→(l.map fun o=>(Lx.li p o).map fun t=>((Lx.ix t (Lx.order p):Nat):Int))=m.map fun o=>(Lx.li q o).map fun t=>((Lx.ix t (Lx.order q):Nat):Int):=by
  intro l m Ut
  induction Ut with
  |nil=>rfl
  |cons h1 _ ih=>
   rw[List.map_cons,List.map_cons,ih]
   congr 1
   have hs:=h.li h1
   have each: ∀ {x y:List Nat},ja ρ x y→(x.map fun t=>((Lx.ix t (Lx.order p):Nat):Int))=y.map fun t=>((Lx.ix t (Lx.order q):Nat):Int):=by
    intro x y hxy
    induction hxy with
    |nil=>rfl
    |cons h2 _ ih2=>rw[List.map_cons,List.map_cons,ih2,ho.ix h.one h2]
   exact each hs
 have XG: ∀ {l m:List Nat},ja ρ l m→(l.map fun o=>p.aA.getD o false)=m.map fun o=>q.aA.getD o false:=by
  intro l m Ut
  induction Ut with
  |nil=>rfl
  |cons h1 _ ih=>rw[List.map_cons,List.map_cons,ih];congr 1;exact h.fin _ _ h1
 unfold Lx.cO
 rw[rows ho,XG ho,h.vars]
end
theorem oo {a b:bY} (ha:Val a) (hb:Val b) (xq:a.vars=b.vars) (h: ∀w,Wd a w→h_ a w=h_ b w):fY a=fY b:=by
 have Mc: ∀w,Wd a w↔Wd b w:=fun w=>by unfold Wd cJ;rw[xq]
 refine su.cO (ρ:=fun c1 c2=> ∃s t,s<a.next.length∧t<b.next.length∧i_ a s=c1∧i_ b t=c2∧ ∀w,Wd a w→dK a (runN a s w)=dK b (runN b t w)) ⟨xq,?_,?_,?_,?_⟩ (om ha) (om hb)
 ·rintro c1 c2 c1' c2' ⟨s,t,hs,ht,rfl,rfl,hw⟩ ⟨s',t',Gl,Gm,rfl,rfl,G0⟩
  rw[nl ha hs Gl,nl hb ht Gm]
  constructor
  ·intro h1 u hu hd
   have GH:=(Mc u).2 hu
   refine h1 u GH ?_
   unfold dst at*
   rw[hw u GH,G0 u GH];exact hd
  ·intro h1 u hu hd
   refine h1 u ((Mc u).1 hu) ?_
   unfold dst at*
   rw[←hw u hu,←G0 u hu];exact hd
 ·exact⟨a.start.toNat,b.start.toNat,dH ha,dH hb,(ra a).symm,(ra b).symm,h⟩
 ·rintro c1 c2 x ⟨s,t,hs,ht,rfl,rfl,hw⟩ hx
  have VT:x<cJ a:=hx
  have VB:x<cJ b:=by unfold cJ at*;rw[←xq];exact VT
  refine⟨dJ a s x,dJ b t x,mC ha hs VT,mC hb ht VB,(s_ ha hs VT).symm,(s_ hb ht VB).symm,fun w Sb=>?_⟩
  exact hw (x::w) (fun y hy=>by rcases List.mem_cons.1 hy with rfl|hy;exact VT;exact Sb y hy)
 ·rintro c1 c2 ⟨s,t,hs,ht,rfl,rfl,hw⟩
  show dK (ol a) _=dK (ol b) _
  rw[wD ha hs,wD hb ht]
  exact hw [] (fun x hx=>by cases hx)
end Go.Lx

namespace Go.Lx
end Go.Lx

namespace Go.Lx
def kp (d:bY) (w:List Nat):Nat:=if bW d≠0 then bW d else if 64<w.length then 4 else if w.any (fun x=>decide (2^d.vars.toNat≤x))=true then 1 else 0
def ur (d:bY) (w:List Nat):Nat:=if kp d w=0 then runN d d.start.toNat w else 0
def E_ (d:bY) (w:List Nat):Bool:=if kp d w=0 then dK d (runN d d.start.toNat w)else false
theorem sP {d:bY} {w:List Nat}:kp d w=0↔Valid d∧w.length≤64∧Wd d w:=by
 unfold kp
 by_cases h:bW d=0
 ·rw[if_neg (by simp[h])]
  by_cases h2:64<w.length
  ·rw[if_pos h2];exact⟨fun h=>absurd h (by decide),fun h=>by omega⟩
  ·rw[if_neg h2]
   by_cases h3:w.any (fun x=>decide (2^d.vars.toNat≤x))=true
   ·rw[if_pos h3]
    refine⟨fun h=>absurd h (by decide),fun h=>?_⟩
    obtain⟨x,hx,Fe⟩:=List.any_eq_true.1 h3
    have:=h.2.2 x hx
    simp at Fe
    unfold cJ at this
    omega
   ·rw[if_neg h3]
    refine⟨fun _=>⟨dr.1 h,by omega,fun x hx=>?_⟩,fun _=>rfl⟩
    rcases Nat.lt_or_ge x (cJ d)with h4|h4
    ·exact h4
    ·exact absurd (List.any_eq_true.2 ⟨x,hx,decide_eq_true h4⟩) h3
 ·rw[if_pos h];exact⟨fun e=>absurd e h,fun hh=>absurd (dr.2 hh.1) h⟩
theorem Gj {d:bY} {s:Nat} {w:List Nat} {k:Nat} (hk:k<w.length):runN d s (w.take (k+1))=dJ d (runN d s (w.take k)) w[k]:=by
 rw[List.take_succ_eq_append_getElem hk,eJ]
end Go.Lx

namespace Go.Lx
theorem ns {d:bY} (hv:Val d): ∀i,∀o∈ew d i,∃w,Wd d w∧runN d d.start.toNat w=o
 |0,o,h=>by
  simp only[ew,List.mem_singleton]at h
  subst h
  exact⟨[],fun x hx=>(List.not_mem_nil hx).elim,F⟩
 |i+1,o,h=>by
  rw[ew]at h
  split at h
  ·rename_i hi
   rcases(dj _ _).1 h with h|h
   ·exact ns hv i o h
   ·obtain⟨x,hx,rfl⟩:=List.mem_map.1 h
    have hm:(ew d i).getD i 0∈ew d i:=by
     rw[List.getD_eq_getElem?_getD,List.getElem?_eq_getElem hi];exact List.getElem_mem hi
    obtain⟨w,hw,he⟩:=ns hv i _ hm
    refine⟨w++[x],fun y hy=>?_,by rw[eJ,he]⟩
    rcases List.mem_append.1 hy with hy|hy
    ·exact hw y hy
    ·rw[List.mem_singleton.1 hy];exact List.mem_range.1 hx
  ·exact ns hv i o h
theorem xi {f:Nat→Nat}: ∀ {l:List Nat},l.Nodup→(∀a∈l,∀b∈l,f a=f b→a=b)→(l.map f).Nodup
 | [],_,_=>List.nodup_nil
 |a::l,hn,hi=>by
  obtain⟨h1,h2⟩:=List.nodup_cons.1 hn
  rw[List.map_cons,List.nodup_cons]
  refine⟨fun hm=>?_,xi h2 fun x hx y hy=>hi x (by simp[hx]) y (by simp[hy])⟩
  obtain⟨y,hy,e⟩:=List.mem_map.1 hm
  have:=hi a (by simp) y (by simp[hy]) e.symm
  exact h1 (this▸hy)
theorem Co {d:bY} (hv:Val d):fY (cO d)=fY d:=oo (ta hv) hv F fun w hw=>yk hv hw
theorem zN {d:bY} (hv:Val d):fY (fY d)=fY d:=oo (JG hv) hv F fun w hw=>uM hv hw
theorem wI {d:bY} (hv:Valid d):pV d=fY d:=by unfold pV;rw[if_pos (dr.2 hv)]
end Go.Lx

namespace Go.Lx
open Go.RowKit
def Dy (a b:bY) (s t:Nat):List Int:=(List.range (cJ a)).map fun x=>((dJ a s x*b.next.length+dJ b t x:Nat):Int)
def qm (a b:bY):List (List Int):=(List.range (a.next.length*b.next.length)).map fun c=>Dy a b (c/b.next.length) (c%b.next.length)
def zM (f:Bool→Bool→Bool) (a b:bY):List Bool:=(List.range (a.next.length*b.next.length)).map fun c=>f (dK a (c/b.next.length)) (dK b (c%b.next.length))
def jk (f:Bool→Bool→Bool) (a b:bY):bY:=⟨a.vars,((a.start.toNat*b.next.length+b.start.toNat:Nat):Int),qm a b,zM f a b⟩
theorem Gx {n s t:Nat} (ht:t<n):(s*n+t)/n=s∧(s*n+t)%n=t:=by
 rw[Nat.mul_comm]
 exact⟨by rw[Nat.mul_add_div (by omega),Nat.div_eq_of_lt ht,Nat.add_zero],by rw[Nat.mul_add_mod,Nat.mod_eq_of_lt ht]⟩
theorem Dz {n k s t:Nat} (hs:s<k) (ht:t<n):s*n+t<k*n:=by
 have:=Nat.mul_le_mul_right n (show s+1≤k by omega);rw[Nat.succ_mul]at this;omega
theorem Gy {n k c:Nat} (h:c<k*n):c/n<k∧c%n<n:=by
 have hn:0<n:=by
  rcases Nat.eq_zero_or_pos n with h0|h0
  ·rw[h0,Nat.mul_zero]at h;exact absurd h (Nat.not_lt_zero _)
  ·exact h0
 exact⟨(Nat.div_lt_iff_lt_mul hn).2 h,Nat.mod_lt _ hn⟩
theorem rl (f:Bool→Bool→Bool) (a b:bY):(jk f a b).next.length=a.next.length*b.next.length:=by
 show(qm a b).length=_;unfold qm;simp
theorem rm {f:Bool→Bool→Bool} {a b:bY} (ha:Val a) (hb:Val b) (hv:a.vars=b.vars):Val (jk f a b):=by
 have a0:=dH ha;have b0:=dH hb
 have eU:=Dz a0 b0
 refine {v0:=ha.v0,v6:=ha.v6,n0:=?_,fin:=?_,s0:=?_,s1:=?_,len:=?_,ok:=?_}
 ·rw[rl];omega
 ·rw[rl];show(zM f a b).length=_;unfold zM;simp
 ·show(0:Int)≤((_:Nat):Int);omega
 ·rw[rl];show((_:Nat):Int)<((_:Nat):Int);omega
 ·intro r hr
  obtain⟨c,_,rfl⟩:=List.mem_map.1 (show r∈qm a b from hr)
  unfold Dy;simp;rfl
 ·intro r hr x hx
  obtain⟨c,hc,rfl⟩:=List.mem_map.1 (show r∈qm a b from hr)
  obtain⟨y,hy,rfl⟩:=List.mem_map.1 (show x∈Dy a b _ _ from hx)
  rw[List.mem_range]at hc hy
  obtain⟨h1,h2⟩:=Gy hc
  have h3:=(ha.fB h1 hy).1
  have h4:=(hb.fB h2 (by rw[←hv];exact hy)).1
  have:=Dz h3 h4
  rw[rl];omega
theorem Gz {f:Bool→Bool→Bool} {a b:bY} {s t:Nat} (hs:s<a.next.length) (ht:t<b.next.length):dK (jk f a b) (s*b.next.length+t)=f (dK a s) (dK b t):=by
 have hd:=Gx (s:=s) ht
 have hc:=Dz hs ht
 show(zM f a b).getD _ false=_
 unfold zM
 rw[List.getD_eq_getElem?_getD,List.getElem?_map,List.getElem?_range hc]
 simp only[Option.map_some,Option.getD_some,hd.1,hd.2]
theorem E7 {f:Bool→Bool→Bool} {a b:bY} {s t x:Nat} (hs:s<a.next.length) (ht:t<b.next.length) (hx:x<cJ a):dJ (jk f a b) (s*b.next.length+t) x=dJ a s x*b.next.length+dJ b t x:=by
 have hd:=Gx (s:=s) ht
 have hc:=Dz hs ht
 show(((qm a b).getD _ []).getD x 0).toNat=_
 unfold qm
 rw[List.getD_eq_getElem?_getD (l:=List.map _ _),List.getElem?_map,List.getElem?_range hc]
 simp only[Option.map_some,Option.getD_some,hd.1,hd.2]
 unfold Dy
 rw[List.getD_eq_getElem?_getD,List.getElem?_map,List.getElem?_range hx]
 exact Int.toNat_natCast _
theorem uL {f:Bool→Bool→Bool} {a b:bY} (ha:Val a) (hb:Val b) (hv:a.vars=b.vars) {s t:Nat} (hs:s<a.next.length) (ht:t<b.next.length): ∀w,Wd a w→runN (jk f a b) (s*b.next.length+t) w=runN a s w*b.next.length+runN b t w:=by
 refine nr (fun _=>rfl) ?_
 intro w x ih hw
 have V2:Wd a w:=fun y hy=>hw y (by simp[hy])
 have Q3:Wd b w:=fun y hy=>by have:=V2 y hy;unfold cJ at this⊢;rw[←hv];exact this
 rw[eJ,eJ,eJ,ih V2,E7 (j7 ha hs w V2) (j7 hb ht w Q3) (hw x (by simp))]
theorem GA {f:Bool→Bool→Bool} {a b:bY} (ha:Val a) (hb:Val b) (hv:a.vars=b.vars) {w:List Nat} (hw:Wd a w):h_ (jk f a b) w=f (h_ a w) (h_ b w):=by
 have a0:=dH ha;have b0:=dH hb
 have Q3:Wd b w:=fun y hy=>by have:=hw y hy;unfold cJ at this⊢;rw[←hv];exact this
 unfold h_
 rw[show(jk f a b).start.toNat=a.start.toNat*b.next.length+b.start.toNat from Int.toNat_natCast _,uL ha hb hv a0 b0 w hw,Gz (j7 ha a0 w hw) (j7 hb b0 w Q3)]
def JZ (f:Bool→Bool→Bool) (a b:bY):bY:=fY (jk f a b)
theorem GB {f:Bool→Bool→Bool} {a b:bY} (ha:Val a) (hb:Val b) (hv:a.vars=b.vars) {w:List Nat} (hw:Wd a w):h_ (JZ f a b) w=f (h_ a w) (h_ b w):=by
 unfold JZ;rw[uM (rm ha hb hv) hw,GA ha hb hv hw]
theorem GD {f:Bool→Bool→Bool} {a b:bY} (ha:Val a) (hb:Val b) (hv:a.vars=b.vars):fY (JZ f a b)=JZ f a b:=zN (rm ha hb hv)
theorem zO {d:bY} (hv:Val d):(fY d).next.length≤d.next.length:=by
 have h1:(fY d).next.length≤(ol d).next.length:=by
  show(cO (ol d)).next.length≤_
  unfold cO
  rw[List.length_map];exact pB (om hv)
 have h2:=(iq d (fj d d.next.length) d.next.length).2
 exact Nat.le_trans h1 h2
theorem Kl {a b:bY} (ha:Val a) (hb:Val b) (Zu:fY a=a) (Zv:fY b=b) (hv:a.vars=b.vars) (h: ∀w,Wd a w→h_ a w=h_ b w):a=b:=by
 rw[←Zu,←Zv];exact oo ha hb hv h
end Go.Lx

namespace Go.Lx
end Go.Lx

namespace Go.Lx
theorem E9 {d:bY} {w:List Nat} (h:kp d w=0):E_ d w=h_ d w:=by unfold E_ h_;rw[if_pos h]
end Go.Lx

namespace Go.Lx
open Go.RowKit
def fZ (v:Int) (f:Bool):bY:=⟨v,0,[List.replicate (2^v.toNat) 0],[f]⟩
theorem uN {v:Int} (h0:0≤v) (h6:v≤6) (f:Bool):Valid (fZ v f):=by
 have n0:0<(fZ v f).next.length:=by show 0< [_].length;simp
 have s1:(fZ v f).start<((fZ v f).next.length:Int):=by show(0:Int)<(([_].length:Nat):Int);simp
 have len: ∀r∈(fZ v f).next,r.length=2^(fZ v f).vars.toNat:=by
  intro r hr
  rw[List.mem_singleton.1 (show r∈[List.replicate (2^v.toNat) (0:Int)]from hr),List.length_replicate];rfl
 have ok: ∀r∈(fZ v f).next,∀x∈r,0≤x∧x<((fZ v f).next.length:Int):=by
  intro r hr x hx
  rw[List.mem_singleton.1 (show r∈[List.replicate (2^v.toNat) (0:Int)]from hr)]at hx
  rw[List.eq_of_mem_replicate hx]
  exact⟨Int.le_refl _,by show(0:Int)<(([_].length:Nat):Int);simp⟩
 exact⟨{v0:=h0,v6:=h6,n0:=n0,fin:=rfl,s0:=Int.le_refl _,s1:=s1,len:=len,ok:=ok},by show[_].length≤4096;simp⟩
theorem GF {v:Int} (h0:0≤v) (h6:v≤6) (f:Bool) {w:List Nat} (hw:Wd (fZ v f) w):h_ (fZ v f) w=f:=by
 have hv:=uN h0 h6 f
 have h1:=j7 hv (dH hv) w hw
 have h2:runN (fZ v f) (fZ v f).start.toNat w=0:=Nat.lt_one_iff.1 h1
 unfold h_;rw[h2];rfl
end Go.Lx

namespace Go.Lx
open Go.RowKit
def qn (v:Int) (w:List Nat):Prop:= ∀x∈w,x<2^v.toNat
structure HasL (v:Int) (n:Nat) (d:bY) (p:List Nat→Bool):Prop where
 valid:Valid d
 len:d.next.length≤n
 vars:d.vars=v
 h_: ∀w,qn v w→h_ d w=p w
theorem HasL.wd {v:Int} {n:Nat} {d:bY} {p:List Nat→Bool} (h:HasL v n d p) {w:List Nat}:Wd d w↔qn v w:=by unfold Wd qn cJ;rw[h.vars]
structure fm (v:Int) (n:Nat) (d:bY) (p:List Nat→Bool):Prop extends HasL v n d p where
 min:fY d=d
theorem HasL.rn {v:Int} {n:Nat} {d:bY} {p:List Nat→Bool} (h:HasL v n d p):fm v n (fY d) p:=
 ⟨⟨lx h.valid,Nat.le_trans (zO h.valid) h.len,h.vars,fun w hw=>by rw[uM h.valid (h.wd.2 hw)];exact h.h_ w hw⟩,zN h.valid⟩
theorem fm.ext {v:Int} {n m:Nat} {a b:bY} {p q:List Nat→Bool} (ha:fm v n a p) (hb:fm v m b q) (h: ∀w,qn v w→p w=q w):a=b:=
 Kl ha.valid hb.valid ha.min hb.min (by rw[ha.vars,hb.vars]) fun w hw=>by rw[ha.h_ w (ha.wd.1 hw),hb.h_ w (ha.wd.1 hw),h w (ha.wd.1 hw)]
def V3 (x y:Bool):Bool:=x&&y
def Zw (x y:Bool):Bool:=x||y
def Rt (x _y:Bool):Bool:=!x
def E8 (d:bY):bY:=JZ Rt d d
end Go.Lx

namespace Go.Lx
open Go.RowKit
end Go.Lx

namespace Go.Lx
open Go.RowKit
end Go.Lx

namespace Go.Lx
open Go.RowKit
def NX (z a:bY):Prop:= ∀u u',qn z.vars u→qn z.vars u'→runN z z.start.toNat u=runN z z.start.toNat u'→runN a a.start.toNat u=runN a a.start.toNat u'
theorem jl (d:bY) (s:Nat) (u w:List Nat):runN d s (u++w)=runN d (runN d s u) w:=by simp[runN]
theorem GG {d:bY} {w:List Nat}:Wd d w↔qn d.vars w:=Iff.rfl
theorem NX.refl (z:bY):NX z z:=fun _ _ _ _ h=>h
theorem Cj {d z:bY} (hd:Val d) (hz:Val z) (hv:z.vars=d.vars) (h:NX z d):(order d).length≤z.next.length:=by
 classical
 have hr: ∀o∈order d,∃w,Wd d w∧runN d d.start.toNat w=o:=fun o ho=>ns hd _ o ho
 let g:Nat→Nat:=fun o=>if hx: ∃w,Wd d w∧runN d d.start.toNat w=o then runN z z.start.toNat (Classical.choose hx)else 0
 have hg: ∀o∈order d,∃w,Wd d w∧runN d d.start.toNat w=o∧g o=runN z z.start.toNat w:=fun o ho=>by
  have hx:=hr o ho
  refine⟨Classical.choose hx,(Classical.choose_spec hx).1,(Classical.choose_spec hx).2,?_⟩
  show(if hx:_ then _ else _)=_
  rw[dif_pos hx]
 have wz: ∀w,Wd d w→qn z.vars w:=fun w hw=>by rw[hv];exact hw
 have hn:((order d).map g).Nodup:=xi (nu hd _).1 fun a ha b hb e=>by
  obtain⟨u,hu,rfl,e1⟩:=hg a ha
  obtain⟨u',GH,rfl,e2⟩:=hg b hb
  exact h u u' (wz u hu) (wz u' GH) (by rw[←e1,←e2,e])
 have:=dR (n:=z.next.length) hn fun x hx=>by
  obtain⟨o,ho,rfl⟩:=List.mem_map.1 hx
  obtain⟨u,hu,_,e1⟩:=hg o ho
  rw[e1]
  exact j7 hz (dH hz) u (wz u hu)
 simpa using this
theorem uO {f:Bool→Bool→Bool} {a b z:bY} (ha:Val a) (hb:Val b) (hv:a.vars=b.vars) (hz:Val z) (V4:z.vars=a.vars) (h1:NX z a) (h2:NX z b):(order (jk f a b)).length≤z.next.length:=by
 refine Cj (rm ha hb hv) hz V4 fun u u' hu GH e=>?_
 rw[show(jk f a b).start.toNat=a.start.toNat*b.next.length+b.start.toNat from Int.toNat_natCast _,
  uL ha hb hv (dH ha) (dH hb) u (by rw[GG,←V4];exact hu),uL ha hb hv (dH ha) (dH hb) u' (by rw[GG,←V4];exact GH),h1 u u' hu GH e,h2 u u' hu GH e]
end Go.Lx

namespace Go.Lx
open Go.RowKit
def J0:bY:=⟨0,0,[],[]⟩
end Go.Lx

namespace Go.Lx
open Go.RowKit
abbrev Ru:DK:=⟨none,0,none,0,[]⟩
theorem yu {P:Program} {base:World} {f:FuncId} {args:List Value} {O:List Item} {R:Value→List Item→Prop} (II Bo I:TypeId) (h:bw P base f args O R):bw P base f args O (fun v O'=> ∃O2,O'=dI II Bo I J0 Ru::O2∧R v O2):=
 (fX II 1 (fX Bo 1 h)).Mt fun v O' hR=>by
  obtain⟨O2,rfl,O3,rfl,h3⟩:=hR
  exact⟨nums Ru.qs=J0.next,[ak Option.none 0 II 1 [],ak Option.none 0 Bo 1 []]++[],O3,F,F,O3,F,h3⟩
theorem l_ {d:bY} (hv:Valid d) {s:Nat} (hs:s<d.next.length):(aU d.aA)[s]? =some (.bool (dK d s)):=by
 have hl:s<d.aA.length:=by rw[hv.fin];exact hs
 rw[gu hl];unfold dK;rw[List.getD_eq_getElem?_getD,List.getElem?_eq_getElem hl];rfl
theorem uP {d:bY} (hv:Valid d) {s x:Nat} (hs:s<d.next.length) (hx:x<2^d.vars.toNat):(ints d.next[s])[x]? =some (.int .i64 ((dJ d s x:Nat):Int)):=by
 obtain⟨_,_,h2,e⟩:=hv.fB hs hx
 rw[d_ h2,e]
end Go.Lx

namespace Go.Lx
open Go.RowKit
theorem Ck {v:Int} {n:Nat} {d:bY} {p:List Nat→Bool} (h:HasL v n d p):d.next.length<9223372036854775807∧(∀r∈d.next,r.length<9223372036854775807)∧d.aA.length<9223372036854775807:=
 ⟨by have:=h.valid.n4;omega,h.valid.uQ,by have:=h.valid.fin;have:=h.valid.n4;omega⟩
end Go.Lx

namespace Go.Lx
open Go.RowKit
theorem HasL.le {v:Int} {n m:Nat} {a:bY} {p:List Nat→Bool} (ha:HasL v n a p) (h:a.next.length≤m):HasL v m a p:=⟨ha.valid,h,ha.vars,ha.h_⟩
end Go.Lx

namespace Go.Lx
open Go.RowKit
end Go.Lx

namespace Go.Lx
open Go.RowKit Go.ChangeShapes Go.WideShapes Go.Deep
section
variable {H:Type} {enc:TypeId×Value→H} {P:Program}
theorem p9 (hl:laidOutB P=true) {W W':World} {X7:Nat→Bool}: ∀ {ts:List TypeId} {vs:List Value} {ds:List (DataW H)} {ps:List MemPlace},
  (∀t∈ts,P.readableRec t=true∧t<P.types.size)→DataW.TrodAll enc P W 0 (fun _=>true) true ts vs ds ps→(∀p∈ps,W.sameAt W' p)→(∀p∈ps,X7 p.block=true)→DataW.TrodAll enc P W' 0 X7 true ts vs ds ps
 | [],_,_,_,_,h,_,_=>by
  obtain⟨rfl,rfl,rfl⟩:=trodAll_nil h
  rfl
 |t::ts,_,_,_,hr,h,hs,wT=>by
  obtain⟨v,vs1,d,ds1,p,q,rfl,rfl,rfl,h1,h2⟩:=trodAll_cons h
  have ht:=hr t (by simp)
  exact⟨p,q,WideElems.Trod_stays hl ht.1 ht.2 h1 (fun x hx=>hs x (List.mem_append_left _ hx)) (fun x hx=>wT x (List.mem_append_left _ hx)),
   p9 hl (fun t ht=>hr t (by simp[ht])) h2 (fun x hx=>hs x (List.mem_append_right _ hx)) (fun x hx=>wT x (List.mem_append_right _ hx)),F⟩
theorem GJ {f:Func} {s:ChangeSpec} {W W':World} {args:Array Value} {ds gs:List (DataW H)} {before:List MemPlace} {tb:TypeId}
  (hl:laidOutB P=true) (hr: ∀t∈f.params.toList,P.readableRec t=true∧t<P.types.size) (RE:f.resultTypes= #[tb]) (hb:P.underlying tb=some .bool) (hv:s.vars=[])
  (hW:DataW.Whole enc P f.params.toList s.vars false W args.toList ds gs before)
  (h1:(s.fn H ds).results=[.lit (.bool true)]) (h2:(s.fn H ds).args=ds) (h3:(s.fn H ds).vars=[])
  (hB:Below W.heap.size W W'):s.post enc P f false true false false W args (.bool true) W':=by
 have V8:=hW
 obtain⟨p,q,hA,hV,rfl,hz,hn⟩:=hW
 rw[hv]at hV
 obtain⟨rfl,rfl⟩:=trodVars_none hV
 simp only[List.append_nil]at V8 hz hn
 have eU:=V8.lt
 have DB: ∀x∈p,W.sameAt W' x:=fun x hx=>hB.same (eU x hx)
 have DC: ∀sp:Nat→Bool,(∀x∈p,sp x.block=true)→DataW.TrodAll enc P W' 0 sp true f.params.toList args.toList (s.fn H (ds++[])).args p:=fun sp wT=>by
  rw[List.append_nil,h2]
  exact p9 hl hr hA DB wT
 have xq: ∀sp:Nat→Bool,DataW.TrodVars enc P W' sp s.vars (s.fn H (ds++[])).vars []:=fun sp=>by
  rw[List.append_nil,hv,h3];rfl
 have DD: ∀(b:Nat) (sp:Nat→Bool) (hd:Bool),DataW.TrodAll enc P W' b sp hd f.resultTypes.toList ((Value.bool true).resultList f.resultTypes.size) (s.fn H (ds++[])).results []:=fun b sp hd=>by
  rw[List.append_nil,h1,RE]
  exact trodAll_cons_mk (shut_bool hb _) trodAll_mk0
 have hold: ∀x∈p,(fun b=>decide (b<W.heap.size)) x.block=true:=fun x hx=>by simpa using eU x hx
 refine⟨ds,[],p,[],p,[],V8,DD _ _ _,DC _ hold,xq _,World.keptBut_mono (fun x hx=>⟨hx,?_⟩) (hB.frame _),fun _=>?_⟩
 ·exact Or.inr (by simpa using hx)
 ·refine⟨ok_one RE F (okWide_bool_mk hb _),_,_,([]++p)++[],⟨[]++p,[],trodAll_append (DC _ (fun _ _=>rfl)) (DD _ _ _),xq _,F,?_,?_⟩,?_⟩
  ·intro b off hx
   have rr:MemPlace.cell b off∈p:=by simpa using hx
   rw[hB.frozen (p:=⟨b,off,none⟩) (eU _ rr)]
   exact hz b off rr
  ·intro ha;cases ha
  ·intro x hx _
   simpa using hx
theorem GO {w:World} {a:Addr} {v:Value} (h:w.cell? a=some v):a.spot=none:=by
 unfold World.cell? at h
 cases e:a.spot with
 |none=>rfl
 |some x=>rw[e]at h;split at h<;>simp at h
theorem nv {w:World} {a:Addr} {cs:List Value} (h: ∀i (hi:i<cs.length),w.cell? (a.add i)=some cs[i]):Sl w (some a) cs:=fun i hi=>by
 have h0:=h 0 (by omega)
 have h1:=h i hi
 have h2:a.spot=none:=GO (a:=a) (by simpa[Addr.add]using h0)
 refine⟨a,F,h2,?_⟩
 have e:a.add i=⟨a.block,a.off+i,none⟩:=by
  unfold Addr.add
  split
  ·rename_i h;subst h
   cases a with
   |mk b o s=>simp at h2;subst h2;rfl
  ·rfl
 rw[←e];exact h1
structure zP (P:Program) (W:World) (v:Value) (d:bY) (nb fb:Option Addr) (nc fc:Nat) (vs:List Value):Prop where
 val:v=.agg (cB d nb nc fb fc).toArray
 at_:eA W d nb vs fb
 n:d.next.length≤reachBytes
 r: ∀r∈d.next,r.length≤reachBytes
 f:d.aA.length≤reachBytes
 V9:d.aA.length≤fc
 V_: ∀(i:Nat) (b:Option Addr) (n c:Nat),vs[i]? =some (Value.slice b n c)→n≤c
theorem tk (e:TypeId): ∀ {l:List (DataW H)} {d:DataW H},d∈l→ ∀m∈d.weights P e,m∈DataW.weightsAll P e l
 | [],_,h,_,_=>by cases h
 |x::l,d,h,m,hm=>by
  rw[DataW.weightsAll,List.mem_append]
  rcases List.mem_cons.1 h with rfl|h
  ·exact .inl hm
  ·exact .inr (tk e h m hm)
theorem ot {t e:TypeId} {uU spare:List (DataW H)} (ht:P.underlying t=some (.slice e)) (he:0<P.bytesOf e) (h: ∀m∈(DataW.slice uU spare).weights P t,m≤reachBytes):
  uU.length≤reachBytes∧ ∀d∈uU,∀m∈d.weights P e,m≤reachBytes:=by
 have hw:(DataW.slice uU spare).weights P t=(uU.length+spare.length)*P.bytesOf e::(DataW.weightsAll P e uU++DataW.weightsAll P e spare):=by
  rw[DataW.weights,ht]
 rw[hw]at h
 refine⟨?_,fun d hd m hm=>h m (List.mem_cons_of_mem _ (List.mem_append_left _ (tk e hd m hm)))⟩
 have h1:=h _ List.mem_cons_self
 have h2:=Nat.mul_le_mul_left (uU.length+spare.length) (show 1≤P.bytesOf e from he)
 omega
theorem N4 {w:World} {A:Option Addr} {L C:Nat} {Z:List Int} (hL:L≤C) (hZ:Z.length=C) (h0:A=none→C=0) (h: ∀a',A=some a'→0≤a'.block∧ ∀c,c<C→w.cell? (a'.add c)=some (.int .i64 (Z.getD c 0))):
  (Z.take L).length=L∧Sl w A (ints (Z.take L)):=by
 have hl:(Z.take L).length=L:=by rw[List.length_take];omega
 refine⟨hl,?_⟩
 cases A with
 |none=>
  have:=h0 F
  have:Z.take L=[]:=List.eq_nil_of_length_eq_zero (by omega)
  rw[this];exact Sl.nil _ _
 |some a=>
  refine nv fun i hi=>?_
  have pC:i<L:=by rw[List.length_map,hl]at hi;exact hi
  have Vn:i<Z.length:=by omega
  rw[(h a F).2 i (by omega),List.getElem_map,List.getElem_take]
  simp[Vn]
theorem GP {t ti tn tr tf tb:TypeId} {f0 f1 f2 f3:Field} {W:World} {v:Value} {d:DataW H} {p:List MemPlace}
  (ht:P.underlying t=some (.struct #[f0,f1,f2,f3])) (hc:P.cellsOf t=4) (h0:f0.type=ti) (h1:f1.type=ti) (h2:f2.type=tn) (h3:f3.type=tf) (o0:f0.offset=0) (o1:f1.offset=1) (o2:f2.offset=2) (o3:f3.offset=3)
  (hi:P.underlying ti=some (.int .i64)) (hn:P.underlying tn=some (.slice tr)) (sC:P.underlying tr=some (.slice ti)) (hf:P.underlying tf=some (.slice tb)) (hb:P.underlying tb=some .bool)
  (ci:P.cellsOf ti=1) (cn:P.cellsOf tn=1) (cr:P.cellsOf tr=1) (cf:P.cellsOf tf=1) (cb:P.cellsOf tb=1) (br:0<P.bytesOf tr) (bi:0<P.bytesOf ti) (bb:0<P.bytesOf tb) (hw: ∀m∈d.weights P t,m≤reachBytes)
  (h:DataW.Trod enc P W 0 (fun _=>true) true t v d p): ∃D nb fb nc fc vs,zP P W v D nb fb nc fc vs:=by
 obtain⟨fa,hT⟩:=h
 obtain⟨xs,n,rfl,hx,ie,Cn,j8⟩:=DataW.trod_struct ht hT
 rw[hc]at ie
 obtain⟨c0,c1,c2,c3,uc⟩: ∃c0 c1 c2 c3,v.cells.toList=[c0,c1,c2,c3]:=by
  match hh:v.cells.toList,ie with
  | [a,b,c,e],_=>exact⟨a,b,c,e,F⟩
 have hv:v=.agg #[c0,c1,c2,c3]:=by
  have qo:v.cells.size=4:=by rw[←Array.length_toList,uc];rfl
  cases v with
  |agg cs=>
   have:cs.toList=[c0,c1,c2,c3]:=uc
   rw[←Array.toArray_toList (xs:=cs),this]
  |_=>simp[Value.cells]at qo
 rw[uc]at j8
 obtain⟨x0,x1,x2,x3,rfl⟩: ∃a b c e,xs=[a,b,c,e]:=by
  match xs,Cn with
  | [a,b,c,e],_=>exact⟨a,b,c,e,F⟩
 have g0:=j8 0 f0 F
 have g1:=j8 1 f1 F
 have g2:=j8 2 f2 F
 have g3:=j8 3 f3 F
 rw[h0,o0,ci]at g0
 rw[h1,o1,ci]at g1
 rw[h2,o2,cn]at g2
 rw[h3,o3,cf]at g3
 have hd:d=.agg [x0.1,x1.1,x2.1,x3.1]:=congrArg Prod.fst hx
 have ZA:d.weights P t=DataW.weightsEach P [ti,ti,tn,tf] [x0.1,x1.1,x2.1,x3.1]:=by
  rw[hd,DataW.weights,ht]
  simp[h0,h1,h2,h3]
 rw[ZA]at hw
 have Q3: ∀m∈x2.1.weights P tn,m≤reachBytes:=fun m hm=>hw m (DataW.weights_mem_each (j:=2) F F m hm)
 have X8: ∀m∈x3.1.weights P tf,m≤reachBytes:=fun m hm=>hw m (DataW.weights_mem_each (j:=3) F F m hm)
 obtain⟨n0,e0,_,_⟩:=DataW.trod_int hi g0
 obtain⟨n1,e1,_,_⟩:=DataW.trod_int hi g1
 have ZB:c0=.int .i64 n0:=by simpa using e0
 have ZC:c1=.int .i64 n1:=by simpa using e1
 subst ZB ZC
 obtain⟨nb,nc,rows,vs,e2,DE,ut,Wa,RG,RH⟩: ∃(nb:Option Addr) (nc:Nat) (rows:List (List Int)) (vs:List Value),c2=.slice nb rows.length nc∧rows.length≤reachBytes∧(∀r∈rows,r.length≤reachBytes)∧Sl W nb vs∧mg W vs rows∧ ∀(i:Nat) (b:Option Addr) (n c:Nat),vs[i]? =some (Value.slice b n c)→n≤c:=by
  rcases open_int_rows hn sC hi cr ci g2 with⟨N5,_⟩|⟨a,len,cap,A,L,C,Z,N5,_,X9,eu,Fe,ku⟩
  ·exact⟨none,0,[],[],by simpa using N5,Nat.zero_le _,fun r hr=>(List.not_mem_nil hr).elim,Sl.nil _ _,⟨F,fun i r hr=>by simp at hr⟩,fun i b n c hr=>by simp at hr⟩
  ·rw[congrArg Prod.fst Fe]at Q3
   obtain⟨Wb,ZD⟩:=ot hn br Q3
   have Wc:len≤reachBytes:=by simpa using Wb
   have RI: ∀r,r<len→L r≤reachBytes:=fun r hr=>by
    obtain⟨_,a2,_,a4,_,a6,_⟩:=ku r (by omega)
    have hm:=ZD _ (List.mem_map.2 ⟨r,List.mem_range.2 hr,F⟩)
    cases hA:A r with
    |none=>have:=a6 hA;omega
    |some b=>
     rw[hA]at hm
     have:=(ot sC bi hm).1
     simp[lits]at this
     omega
   have yw: ∀r,r<len→((Z r).take (L r)).length=L r∧Sl W (A r) (ints ((Z r).take (L r))):=fun r hr=>by
    obtain⟨_,a2,a3,a4,_,a6,a7⟩:=ku r (by omega)
    exact N4 a2 a4 a6 a7
   refine⟨some a,cap,(List.range len).map fun r=>(Z r).take (L r),(List.range len).map fun r=>.slice (A r) (L r) (C r),by simpa using N5,by simp;omega,?_,?_,⟨by simp,?_⟩,?_⟩
   ·intro r hr
    obtain⟨j,hj,rfl⟩:=List.mem_map.1 hr
    have uV:=List.mem_range.1 hj
    rw[(yw j uV).1];exact RI j uV
   ·refine nv fun i Kp=>?_
    have pC:i<len:=by simpa using Kp
    rw[(ku i (by omega)).1];simp
   ·intro i r hr
    have pC:i<len:=by
     have:=(List.getElem?_eq_some_iff.1 hr).1
     simpa using this
    have er:r=(Z i).take (L i):=by
     rw[List.getElem?_map,List.getElem?_range pC]at hr
     exact(Option.some.inj hr).symm
    subst er
    refine⟨A i,C i,?_,(yw i pC).2⟩
    rw[List.getElem?_map,List.getElem?_range pC,(yw i pC).1];rfl
   ·intro i b n c hr
    by_cases pC:i<len
    ·rw[List.getElem?_map,List.getElem?_range pC]at hr
     have h9:=Option.some.inj hr
     obtain⟨_,a2,_⟩:=ku i (by omega)
     injection h9 with _ Q4 h11
     omega
    ·rw[List.getElem?_eq_none (by simpa using pC)]at hr;cases hr
 obtain⟨fb,fc,fin,e3,qp,ud,RJ⟩: ∃(fb:Option Addr) (fc:Nat) (fin:List Bool),c3=.slice fb fin.length fc∧fin.length≤reachBytes∧Sl W fb (aU fin)∧fin.length≤fc:=by
  rcases open_bools hf hb cb g3 with⟨N6,_⟩|⟨a,len,cap,B,N6,_,X9,eu,RK,ku⟩
  ·exact⟨none,0,[],by simpa using N6,Nat.zero_le _,Sl.nil _ _,Nat.zero_le _⟩
  ·rw[congrArg Prod.fst RK]at X8
   have Wb:=(ot hf bb X8).1
   have Wc:len≤reachBytes:=by simpa using Wb
   refine⟨some a,cap,(List.range len).map B,by simpa using N6,by simp;omega,nv fun i Kp=>?_,by simp;omega⟩
   have pC:i<len:=by simpa using Kp
   rw[ku i (by omega)];simp
 exact⟨⟨n0,n1,rows,fin⟩,nb,fb,nc,fc,vs,by rw[hv,e2,e3],⟨Wa,RG,ud⟩,DE,ut,qp,RJ,RH⟩
theorem N7 {n:Nat} (h:n≤reachBytes):n<9223372036854775807:=Nat.lt_of_le_of_lt h (by decide)
end
end Go.Lx

namespace Go.Lx
open Go.RowKit
theorem uW {f:Bool→Bool→Bool} {v:Int} {n m N:Nat} {a b:bY} {p q:List Nat→Bool} (ha:HasL v n a p) (hb:HasL v m b q) (h:(order (jk f a b)).length≤N) (hN:N≤4096):fm v N (JZ f a b) (fun w=>f (p w) (q w)):=by
 have hv:a.vars=b.vars:=by rw[ha.vars,hb.vars]
 have vD:Val (jk f a b):=rm ha.valid.toVal hb.valid.toVal hv
 have vR:Valid (cO (jk f a b)):=xr vD (Nat.le_trans h hN)
 have e:JZ f a b=fY (cO (jk f a b)):=(Co vD).symm
 have hl:(fY (cO (jk f a b))).next.length≤(cO (jk f a b)).next.length:=zO vR.toVal
 have hr:(cO (jk f a b)).next.length=(order (jk f a b)).length:=by simp[cO]
 refine⟨⟨?_,?_,ha.vars,fun w hw=>?_⟩,GD ha.valid.toVal hb.valid.toVal hv⟩
 ·rw[e];exact lx vR
 ·rw[e];omega
 ·rw[GB ha.valid.toVal hb.valid.toVal hv (ha.wd.2 hw),ha.h_ w hw,hb.h_ w hw]
end Go.Lx

namespace Go.Lx
open Go.RowKit
end Go.Lx

namespace Go.Lx
open Go.RowKit
end Go.Lx

namespace Go.Lx
open Go.RowKit
end Go.Lx

namespace Go.Lx
open Go.RowKit
abbrev cC (a g:bY) (j k:DK):List Value:=[.int .i64 a.vars,.int .i64 a.start,.slice j.nb a.next.length j.nc,.slice j.fb a.aA.length j.fc,.int .i64 g.vars,.int .i64 g.start,.slice k.nb g.next.length k.nc,.slice k.fb g.aA.length k.fc]
abbrev bC (e:Value) (a g:bY) (j k:DK):List Value:=e::cC a g j k
end Go.Lx
namespace Go.Lx
end Go.Lx

namespace Go.Lx
open Go.RowKit
end Go.Lx

namespace Go.Lx
open Go.RowKit
section
variable {v:Int} {px py p q p1 q1 p2 q2 p3 q3:List Nat→Bool}
end
section
variable {z x a b c d:bY} {px p q p2 q2:List Nat→Bool}
end
section
variable {v:Int} {px py p q p1 q1 p2 q2 p3 q3:List Nat→Bool}
theorem fi {P Q:List Nat→Prop} (h: ∀w,P w↔Q w):(∀w,qn v w→P w)↔ ∀w,qn v w→Q w:=forall_congr' fun w=>forall_congr' fun _=>h w
theorem fc {P Q R:List Nat→Prop} (h: ∀w,P w↔Q w∧R w):(∀w,qn v w→P w)↔(∀w,qn v w→Q w)∧ ∀w,qn v w→R w:=
 ⟨fun a=>⟨fun w hw=>((h w).1 (a w hw)).1,fun w hw=>((h w).1 (a w hw)).2⟩,fun a w hw=>(h w).2 ⟨a.1 w hw,a.2 w hw⟩⟩
end
end Go.Lx

namespace Go.Lx
open Go.RowKit
structure We (d:bY) (j:DK):Prop where
 f:d.aA.length≤j.fc
 r: ∀(i:Nat) (b:Option Addr) (n c:Nat),(bO j.qs)[i]? =some (Value.slice b n c)→n≤c
end Go.Lx
namespace Go.Lx
abbrev ZE (a:bY):Prop:=a.next.length<9223372036854775807∧(∀r∈a.next,r.length<9223372036854775807)∧a.aA.length<9223372036854775807
end Go.Lx

namespace Go.Lx
open Go.RowKit Go.ChangeShapes Go.WideShapes Go.Deep
section
variable {H:Type} {enc:TypeId×Value→H} {P:Program}
theorem zP.dk {W:World} {v:Value} {d:bY} {nb fb:Option Addr} {nc fc:Nat} {vs:List Value} (h:zP P W v d nb fb nc fc vs): ∃j:DK,v=.agg (dC d j).toArray∧At W d j∧ZE d∧We d j:=by
 obtain⟨qs,rfl,e⟩:=zT h.at_.rows
 exact⟨⟨nb,nc,fb,fc,qs⟩,h.val,h.at_,⟨N7 h.n,fun r hr=>N7 (h.r r hr),N7 h.f⟩,⟨h.V9,h.V_⟩⟩
end
end Go.Lx

namespace Go.Lx
open Go.RowKit Go.Sort
theorem qj {α:Type} [Inhabited α] (enc:α→Value) (off:Nat) (d:Array α) (c:Array Value):(putCells enc off d c).size=c.size:=by simp[putCells]
theorem tU {α:Type} [Inhabited α] (enc:α→Value) (off:Nat) (d:Array α) (c:Array Value) {i:Nat} (hi:i<d.size) (hc:off+i<c.size):(putCells enc off d c)[off+i]? =some (enc d[i]!):=by
 simp only[putCells,Array.getElem?_mapIdx,Array.getElem?_eq_getElem hc,Option.map_some]
 rw[if_pos ⟨by omega,by omega⟩,show off+i-off=i by omega]
theorem Inv.Ji {base w:World} {O:List Item} {i jP off cap:Nat} {T:TypeId} {zs ys:List Int} (hI:Inv base O w) (hO:O[i]? =some (ak (some ⟨jP,off,none⟩) cap T 1 (ints zs))) (hl:ys.length=zs.length) (n:Nat) (os:Array Obj):
  Inv base (O.set i (ak (some ⟨jP,off,none⟩) cap T 1 (ints ys))) (Go.Sort.grow (putRow (Value.int .i64) (Sort.ahead w n) jP off ys.toArray) os):=by
 obtain⟨_,full,hb,mj,KD,Gv⟩:=hI.row hO
 have eU:jP<w.heap.size:=(Array.getElem?_eq_some_iff.1 hb).1
 have wA:(Go.Sort.grow (putRow (Value.int .i64) (Sort.ahead w n) jP off ys.toArray) os).heap=(w.heap.modify jP (onCells (putCells (Value.int .i64) off ys.toArray)))++os:=rfl
 refine hI.qq hO F F F ?_ (fun b Sh hk=>?_) ⟨F,putCells (Value.int .i64) off ys.toArray full,?_,?_,?_,fun j hj=>?_⟩ (fun k hk=>.inl hk) (by simp[ak])
 ·rw[wA];simp
 ·rw[wA,Array.getElem?_append_left (by simpa using Sh),Array.getElem?_modify,if_neg (fun e=>hk (by simp[ak,e]))]
 ·rw[wA,Array.getElem?_append_left (by simpa using eU),Array.getElem?_modify,if_pos F,hb];rfl
 ·simp only[List.length_map]at mj⊢;omega
 ·rw[qj];exact KD
 ·have qB:j<ys.length:=by simpa using hj
  have Xx:zs.length≤cap*1:=by simpa using mj
  have Xy:off+cap*1≤full.size:=KD
  show(putCells (Value.int .i64) off ys.toArray full)[off+j]? =_
  rw[tU _ _ _ _ (by simpa using qB) (by omega)]
  simp[qB]
theorem yp {base w:World} {O:List Item} {i jP off cap:Nat} {T:TypeId} {zs:List Int} (hI:Inv base O w) (hO:O[i]? =some (ak (some ⟨jP,off,none⟩) cap T 1 (ints zs))):Holds (Value.int .i64) w jP off zs.toArray∧jP<w.heap.size:=by
 obtain⟨_,full,hb,mj,KD,Gv⟩:=hI.row hO
 refine⟨fun j hj=>?_,(Array.getElem?_eq_some_iff.1 hb).1⟩
 have qB:j<zs.length:=by simpa using hj
 have h9:=Gv j (by simpa using qB)
 constructor
 ·simp only[World.cell?,hb]
  simp at h9
  simp[h9,qB]
 ·simp[World.frozen?,hb]
end Go.Lx

namespace Go.Lx
open Go.RowKit Go.Sort
theorem L1 {l m:List Int} (hl:l.Pairwise (· < ·)) (hm:m.Pairwise (· < ·)) (h: ∀y,y∈l↔y∈m):l=m:=
 ((List.perm_ext_iff_of_nodup (hl.imp fun h=>by omega) (hm.imp fun h=>by omega)).2 h).eq_of_pairwise (le:=fun x y:Int=>x<y) (fun a b _ _ h1 h2=>by omega) hl hm
theorem wy {l m:List Nat} (hl:l.Pairwise (· < ·)) (hm:m.Pairwise (· < ·)) (h: ∀y,y∈l↔y∈m):l=m:=
 ((List.perm_ext_iff_of_nodup (hl.imp fun h=>by omega) (hm.imp fun h=>by omega)).2 h).eq_of_pairwise (le:=fun x y:Nat=>x<y) (fun a b _ _ h1 h2=>by omega) hl hm
theorem BB (zs:List Int) (y:Int):y∈Lib.compact zs↔y∈zs:=by
 unfold Lib.compact Lib.compactUpTo
 simp only[List.mem_map,List.mem_filter,List.mem_range]
 constructor
 ·rintro⟨j,⟨hj,_⟩,rfl⟩
  rw[getElem!_pos zs.toArray j (by simpa using hj)];simp
 ·intro hy
  have hex: ∃j,j<zs.length∧zs.toArray[j]! =y:=by
   obtain⟨j,hj,e⟩:=List.getElem_of_mem hy
   exact⟨j,hj,by rw[getElem!_pos zs.toArray j (by simpa using hj)];simpa using e⟩
  suffices main: ∀j,j<zs.length→zs.toArray[j]! =y→ ∃i,(i<zs.length∧Lib.keeps zs.toArray i=true)∧zs.toArray[i]! =y by
   obtain⟨j,hj,e⟩:=hex;exact main j hj e
  intro j
  induction j with
  |zero=>exact fun hj e=>⟨0,⟨hj,by simp[Lib.keeps]⟩,e⟩
  |succ j ih=>
   intro hj e
   by_cases h:zs.toArray[j]! =y
   ·exact ih (by omega) h
   ·exact⟨j+1,⟨hj,by simp only[Lib.keeps,decide_eq_true_eq];exact .inr (by rw[e];exact fun h'=>h h'.symm)⟩,e⟩
theorem BC {zs:List Int} (h:zs.Pairwise (· ≤ ·)):(Lib.compact zs).Pairwise (· < ·):=by
 have Aa: ∀i j,i≤j→j<zs.length→zs.toArray[i]! ≤zs.toArray[j]! :=fun i j hij hj=>by
  rw[getElem!_pos zs.toArray i (by simp;omega),getElem!_pos zs.toArray j (by simpa using hj)]
  rcases Nat.lt_or_ge i j with h1|h1
  ·simpa using List.pairwise_iff_getElem.1 h i j (by omega) hj h1
  ·have:i=j:=by omega
   subst this;exact Int.le_refl _
 unfold Lib.compact Lib.compactUpTo
 rw[List.pairwise_map]
 refine List.Pairwise.imp_of_mem ?_ (List.Pairwise.filter _ (List.pairwise_lt_range (n:=zs.length)))
 intro i j hi hj hij
 simp only[List.mem_filter,List.mem_range]at hi hj
 have h2:=hj.2
 simp only[Lib.keeps,decide_eq_true_eq]at h2
 have h1:=Aa i (j-1) (by omega) (by omega)
 have h3:=Aa (j-1) j (by omega) hj.1
 omega
def F1 (n:Nat) (p:Nat→Bool):List Nat:=(List.range n).filter p
theorem pm {n:Nat} {p:Nat→Bool} {y:Nat}:y∈F1 n p↔y<n∧p y=true:=by simp[F1]
theorem nk (n:Nat) (p:Nat→Bool):(F1 n p).Pairwise (· < ·):=List.Pairwise.filter _ List.pairwise_lt_range
theorem Ih (n:Nat) (p:Nat→Bool):(F1 n p).length≤n:=Nat.le_trans (List.length_filter_le _ _) (by simp)
def eD (d:bY) (l:List Nat) (x:Nat):List Nat:=F1 d.next.length fun y=>l.any fun s=>dJ d s x==y
theorem pS {d:bY} (hv:Val d) {l:List Nat} (hl: ∀s∈l,s<d.next.length) {x y:Nat} (hx:x<2^d.vars.toNat):y∈eD d l x↔ ∃s∈l,dJ d s x=y:=by
 unfold eD;rw[pm]
 simp only[List.any_eq_true,beq_iff_eq]
 constructor
 ·exact fun h=>h.2
 ·rintro⟨s,hs,rfl⟩
  exact⟨(hv.fB (hl s hs) hx).1,s,hs,F⟩
def yM (n:Nat) (l:List Nat) (s:Nat):List Nat:=F1 n fun y=>l.contains y||y==s
theorem uG {n:Nat} {l:List Nat} (hl: ∀s∈l,s<n) {s y:Nat} (hs:s<n):y∈yM n l s↔y∈l∨y=s:=by
 unfold yM;rw[pm]
 simp only[Bool.or_eq_true,List.contains_eq_mem,decide_eq_true_eq,beq_iff_eq]
 exact⟨fun h=>h.2,fun h=>⟨h.elim (hl y) (fun e=>e▸hs),h⟩⟩
theorem Lo {n:Nat} {l:List Nat} (ha:l.Pairwise (· < ·)) (hl: ∀s∈l,s<n) {s:Nat} (hs:s∈l):yM n l s=l:=
 wy (nk _ _) ha fun y=>by rw[uG hl (hl s hs)];exact⟨fun h=>h.elim id (fun e=>e▸hs),.inl⟩
abbrev oZ (l:List Int):List Int:=l.mergeSort fun x y=>decide (x≤y)
theorem xg (l:List Int):(oZ l).Pairwise fun x y=>x≤y:=by
 have:=List.pairwise_mergeSort (le:=fun x y:Int=>decide (x≤y)) (fun a b c h1 h2=>by simp at*;omega) (fun a b=>by simp;omega) l
 exact this.imp fun h=>by simpa using h
theorem FJ {d:bY} (hv:Val d) {l:List Nat} (hl: ∀s∈l,s<d.next.length) {x:Nat} (hx:x<2^d.vars.toNat):
  Lib.compact (oZ (l.map fun s=>((dJ d s x:Nat):Int)))=(eD d l x).map fun y:Nat=>(y:Int):=by
 refine L1 (BC (xg _)) (List.pairwise_map.2 ((nk _ _).imp fun h=>by omega)) fun y=>?_
 rw[BB,List.mem_mergeSort,List.mem_map,List.mem_map]
 constructor
 ·rintro⟨s,hs,rfl⟩;exact⟨_,(pS hv hl hx).2 ⟨s,hs,F⟩,F⟩
 ·rintro⟨y,hy,rfl⟩
  obtain⟨s,hs,rfl⟩:=(pS hv hl hx).1 hy
  exact⟨s,hs,F⟩
theorem EJ: ∀ {l:List Nat} {s:Nat},l.Pairwise (· < ·)→s∉l→(l.take (l.countP (· <s))++s::l.drop (l.countP (· <s))).Pairwise (· < ·)
 | [],s,_,_=>by simp
 |a::l,s,h,hs=>by
  rw[List.pairwise_cons]at h
  simp only[List.mem_cons,not_or]at hs
  by_cases c:a<s
  ·rw[List.countP_cons,if_pos (by simpa using c)]
   simp only[List.take_succ_cons,List.drop_succ_cons,List.cons_append,List.pairwise_cons]
   refine⟨fun y hy=>?_,EJ h.2 hs.2⟩
   rcases List.mem_append.1 hy with hy|hy
   ·exact h.1 y (List.mem_of_mem_take hy)
   ·rcases List.mem_cons.1 hy with rfl|hy
    ·exact c
    ·exact h.1 y (List.mem_of_mem_drop hy)
  ·have h0:(a::l).countP (· <s)=0:=by
    rw[List.countP_eq_zero]
    intro y hy
    rcases List.mem_cons.1 hy with rfl|hy
    ·simpa using c
    ·have:=h.1 y hy;simp;omega
   rw[h0]
   simp only[List.take_zero,List.nil_append,List.drop_zero,List.pairwise_cons]
   exact⟨fun y hy=>by
    rcases List.mem_cons.1 hy with rfl|hy
    ·omega
    ·have:=h.1 y hy;omega,h.1,h.2⟩
theorem Ea {n:Nat} {l:List Nat} (ha:l.Pairwise (· < ·)) (hl: ∀s∈l,s<n) {s:Nat} (hs:s<n) (hn:s∉l):l.take (l.countP (· <s))++s::l.drop (l.countP (· <s))=yM n l s:=
 wy (EJ ha hn) (nk _ _) fun y=>by
  rw[uG hl hs,List.mem_append,List.mem_cons]
  have h9:y∈l↔y∈l.take (l.countP (· <s))∨y∈l.drop (l.countP (· <s)):=by rw[←List.mem_append,List.take_append_drop]
  rw[h9]
  constructor
  ·rintro(h|h|h)
   ·exact .inl (.inl h)
   ·exact .inr h
   ·exact .inl (.inr h)
  ·rintro((h|h)|h)
   ·exact .inl h
   ·exact .inr (.inr h)
   ·exact .inr (.inl h)
theorem Inv.drewN {base w:World} {O:List Item} (h:Inv base O w) (q:Nat):Inv base O (w.drewN q):=h.same F F F F
theorem e7 (l:List Nat):ints (l.map fun y:Nat=>(y:Int))=aQ l:=by simp
theorem EK {w:World} {b:Nat} {o:Obj} (h:w.heap[b]? =some o):iI w b o=w:=by
 have eU:=(Array.getElem?_eq_some_iff.1 h).1
 have e:w.heap.setIfInBounds b o=w.heap:=by
  apply Array.ext_getElem?
  intro i
  rw[Array.getElem?_setIfInBounds]
  by_cases c:b=i
  ·subst c;rw[if_pos F,if_pos eU,h]
  ·rw[if_neg c]
 show({w with heap:=_}:World)=w
 rw[e]
theorem ko {b:Nat} {T:TypeId}: ∀(vs:List Value) (o:Nat) (cs:List Value) (w:World),w.heap[b]? =some (.cells cs.toArray T (0,0))→w.setCells b o vs=iI w b (.cells (dl cs o vs).toArray T (0,0))
 | [],o,cs,w,h=>by
  rw[World.setCells,dl,EK h]
 |v::vs,o,cs,w,h=>by
  have eU:=(Array.getElem?_eq_some_iff.1 h).1
  rw[World.setCells,dl,rv h,ko vs (o+1) (cs.set o v) (iI w b _) (jV eU),xz]
theorem Inv.setCells {base w:World} {O:List Item} {i b o c p:Nat} {T:TypeId} {cs zY vs:List Value} (hI:Inv base O w) (hO:O[i]? =some (ak (some ⟨b,o,none⟩) c T 1 cs)) (hp:p+vs.length≤c) (hl:zY.length≤c)
  (hc: ∀j (h:j<zY.length),zY[j]? =if p≤j∧j<p+vs.length then vs[j-p]? else cs[j]?):Inv base (O.set i (ak (some ⟨b,o,none⟩) c T 1 zY)) (w.setCells b (o+p) vs):=by
 obtain⟨_,full,hb,h1,h2,h3⟩:=hI.row hO
 obtain⟨fl,rfl⟩: ∃fl:List Value,full=fl.toArray:=⟨full.toList,by simp⟩
 simp only[Nat.mul_one,List.size_toArray]at h1 h2
 rw[ko vs (o+p) fl w hb]
 refine hI.setRow hO (by omega) (by simp[gv];omega) fun j hj=>?_
 have hg:=lA vs fl (o+p) (o+j) (by omega)
 simp only[List.getElem?_toArray]
 rw[hg]
 have h9:=hc j hj
 by_cases wL:p≤j∧j<p+vs.length
 ·rw[if_pos (by omega)]
  rw[if_pos wL]at h9
  rw[show o+j-(o+p)=j-p by omega,←h9,List.getElem?_eq_getElem hj]
 ·rw[if_neg (by omega)]
  rw[if_neg wL]at h9
  have Y3:j<cs.length:=by
   rcases Nat.lt_or_ge j cs.length with h|h
   ·exact h
   ·rw[List.getElem?_eq_none h,List.getElem?_eq_getElem hj]at h9;cases h9
  have:=h3 j Y3
  simp only[List.getElem?_toArray]at this
  rw[this,←List.getElem?_eq_getElem Y3,←h9,List.getElem?_eq_getElem hj]
theorem Inv.F2 {base w:World} {O:List Item} {i jP off cap:Nat} {T:TypeId} {zs ys QG:List Int} (hI:Inv base O w) (hO:O[i]? =some (ak (some ⟨jP,off,none⟩) cap T 1 (ints zs))) (hl:(ys++QG).length=zs.length) (n:Nat):
  Inv base (O.set i (ak (some ⟨jP,off,none⟩) cap T 1 (ints ys))) (putRow (Value.int .i64) (Sort.ahead w n) jP off (ys++QG).toArray):=by
 have h:=hI.Ji (ys:=ys++QG) hO hl n #[]
 have e:Go.Sort.grow (putRow (Value.int .i64) (Sort.ahead w n) jP off (ys++QG).toArray) #[]=putRow (Value.int .i64) (Sort.ahead w n) jP off (ys++QG).toArray:=by
  simp[Go.Sort.grow];rfl
 rw[e]at h
 have eU:i<O.length:=(List.getElem?_eq_some_iff.1 hO).1
 have h2:(O.set i (ak (some ⟨jP,off,none⟩) cap T 1 (ints (ys++QG))))[i]? =some (ak (some ⟨jP,off,none⟩) cap T 1 (ints (ys++QG))):=by simp[eU]
 obtain⟨_,full,hb,h3,h4,h5⟩:=h.row h2
 have h6:=h.setRow h2 (zY:=ints ys) (full:=full) (by simp at h3⊢;omega) h4 fun j hj=>by
  have qB:j<ys.length:=by simpa using hj
  have:=h5 j (by simp;omega)
  rw[this];simp[List.getElem_append_left,qB]
 rw[List.set_set]at h6
 rwa[EK hb]at h6
theorem sj (xs:List Int) (x:Int) {i:Nat} (hi:i≤xs.length) (j:Nat):(ints (xs.take i++x::xs.drop i))[j]? =if j<i then(ints xs)[j]? else if j=i then some (.int .i64 x)else(ints xs)[j-1]? :=by
 rw[List.getElem?_map]
 by_cases c1:j<i
 ·rw[if_pos c1,List.getElem?_append_left (by simp;omega),List.getElem?_take,if_pos c1,List.getElem?_map]
 ·rw[if_neg c1,List.getElem?_append_right (by simp;omega)]
  simp only[List.length_take,Nat.min_eq_left hi]
  by_cases c2:j=i
  ·subst c2;rw[if_pos F,Nat.sub_self];rfl
  ·obtain⟨k,rfl⟩: ∃k,j=i+(k+1):=⟨j-i-1,by omega⟩
   rw[if_neg c2,show i+(k+1)-i=k+1 by omega,List.getElem?_cons_succ,List.getElem?_drop,List.getElem?_map,show i+(k+1)-1=i+k by omega]
end Go.Lx

namespace Go.Lx
open Go.RowKit
abbrev Key:=List UInt8
theorem s6 {α:Type} [DecidableEq α]: ∀ {l m:List α},l.Nodup→(∀x∈l,x∈m)→l.length≤m.length
 | [],_,_,_=>Nat.zero_le _
 |a::l,m,hn,h=>by
  rw[List.nodup_cons]at hn
  have ha:=h a (by simp)
  have:=s6 (l:=l) (m:=m.erase a) hn.2 fun x hx=>(List.mem_erase_of_ne (fun e:x=a=>hn.1 (by rw[←e];exact hx))).2 (h x (by simp[hx]))
  rw[List.length_erase_of_mem ha]at this
  have:=List.length_pos_of_mem ha
  simp only[List.length_cons];omega
def EM (tr:Key→Nat→Key) (L:Nat) (start:Key) (C:List Key):Prop:=start∈C∧ ∀k∈C,∀x,x<L→tr k x∈C
def CT (tr:Key→Nat→Key) (L:Nat) (start:Key) (B:Nat):Prop:= ∃C,EM tr L start C∧C.length≤B
structure xU (tr:Key→Nat→Key) (L:Nat) (start:Key) (ks:List Key):Prop where
 nodup:ks.Nodup
 st:ks[0]? =some start
 sub: ∀C,EM tr L start C→ ∀k∈ks,k∈C
theorem xU.one (tr:Key→Nat→Key) (L:Nat) (start:Key):xU tr L start [start]:=⟨by simp,F,fun C h k hk=>by simp at hk;subst hk;exact h.1⟩
theorem xU.pos {tr:Key→Nat→Key} {L:Nat} {start:Key} {ks:List Key} (h:xU tr L start ks):0<ks.length:=(List.getElem?_eq_some_iff.1 h.st).1
theorem xU.add {tr:Key→Nat→Key} {L:Nat} {start:Key} {ks:List Key} (h:xU tr L start ks) {k:Key} (hk:k∈ks) {x:Nat} (hx:x<L):xU tr L start (add ks (tr k x)):=
 ⟨lr h.nodup,by obtain⟨t,ht⟩:=gD ks (tr k x);rw[←ht,List.getElem?_append_left h.pos];exact h.st,fun C hC y hy=>(sk.1 hy).elim (h.sub C hC y) fun e=>e▸hC.2 k (h.sub C hC k hk) x hx⟩
theorem xU.Pl {tr:Key→Nat→Key} {L:Nat} {start:Key} {ks:List Key} (h:xU tr L start ks) {B:Nat} (hB:B<ks.length): ¬CT tr L start B:=fun⟨C,hC,hl⟩=>by
 have:=s6 h.nodup (fun k hk=>h.sub C hC k hk)
 omega
theorem yO {ks:List Key} {k:Key} (h:k∉ks):add ks k=ks++[k]:=by unfold add;rw[if_neg h]
theorem yP {ks:List Key} {k:Key} (h:k∈ks):add ks k=ks:=by unfold add;rw[if_pos h]
theorem vX {tr:Key→Nat→Key} {L:Nat} {start:Key} {ks:List Key} {rs:List (List Int)} (h:xU tr L start ks) (hE:nM tr L ks ks.length rs) {B:Nat} (hB:ks.length≤B):CT tr L start B:=
 ⟨ks,⟨List.mem_of_getElem? h.st,fun k hk x hx=>by
  obtain⟨i,hi,rfl⟩:=List.getElem_of_mem hk
  have:=hE.mem i hi x hx
  rwa[show ks.getD i []=ks[i] by simp[hi]]at this⟩,hB⟩
def FK (v:Nat) (rs:List (List Int)) (fs:List Bool):bY:=⟨(v:Int),0,rs,fs⟩
section
variable {tr:Key→Nat→Key} {fin:Key→Bool} {v:Nat} {start:Key} {ks:List Key} {rs:List (List Int)}
theorem Dp (hv:v≤6) (hp:0<ks.length) (hE:nM tr (2^v) ks ks.length rs) (hn:ks.length≤4096):Valid (FK v rs (ks.map fin)):=by
 refine⟨⟨by simp[FK],by simp[FK];omega,by show 0<rs.length;rw[hE.len];exact hp,by show(ks.map fin).length=rs.length;rw[hE.len,List.length_map],Int.le_refl _,by show(0:Int)<(rs.length:Int);rw[hE.len];omega,fun r hr=>?_,fun r hr x hx=>?_⟩,by show rs.length≤4096;rw[hE.len];exact hn⟩
 ·obtain⟨i,hi,rfl⟩:=List.getElem_of_mem (show r∈rs from hr)
  have Fj:i<ks.length:=by have:i<rs.length:=hi;rw[hE.len]at this;exact this
  have h9:=hE.row i Fj
  rw[List.getElem?_eq_getElem hi]at h9
  rw[Option.some.inj h9];simp[iM,FK]
 ·obtain⟨i,hi,rfl⟩:=List.getElem_of_mem (show r∈rs from hr)
  have Fj:i<ks.length:=by have:i<rs.length:=hi;rw[hE.len]at this;exact this
  have h9:=hE.row i Fj
  rw[List.getElem?_eq_getElem hi]at h9
  rw[Option.some.inj h9]at hx
  simp only[iM,List.mem_map,List.mem_range]at hx
  obtain⟨y,hy,rfl⟩:=hx
  have:=so (hE.mem i Fj y hy)
  exact⟨by omega,by show _<(rs.length:Int);rw[hE.len];omega⟩
theorem EN (hE:nM tr (2^v) ks ks.length rs): ∀(w:List Nat) (k:Key),qn (v:Int) w→k∈ks→runN (FK v rs (ks.map fin)) (ix k ks) w=ix (w.foldl tr k) ks∧w.foldl tr k∈ks
 | [],k,_,hk=>⟨F,hk⟩
 |x::w,k,hw,hk=>by
  have hx:x<2^v:=by have:=hw x (by simp);simpa using this
  have hi:=so hk
  have hg:ks.getD (ix k ks) []=k:=by rw[List.getD_eq_getElem?_getD,pq hk];rfl
  have hm:tr k x∈ks:=by have:=hE.mem _ hi x hx;rwa[hg]at this
  have ht:dJ (FK v rs (ks.map fin)) (ix k ks) x=ix (tr k x) ks:=by
   have h9:=hE.row _ hi
   unfold dJ FK
   simp only[List.getD_eq_getElem?_getD,h9,Option.getD_some,iM,List.getElem?_map,List.getElem?_range hx,Option.map_some]
   rw[←List.getD_eq_getElem?_getD,hg];simp
  have:=EN hE w (tr k x) (fun y hy=>hw y (by simp[hy])) hm
  unfold runN at this⊢
  rw[List.foldl_cons,ht,List.foldl_cons]
  exact this
theorem BG (hv:v≤6) (pX:ks[0]? =some start) (hE:nM tr (2^v) ks ks.length rs) (hn:ks.length≤4096):HasL (v:Int) ks.length (FK v rs (ks.map fin)) (fun w=>fin (w.foldl tr start)):=by
 refine⟨Dp hv (List.getElem?_eq_some_iff.1 pX).1 hE hn,by show rs.length≤_;rw[hE.len];exact Nat.le_refl _,F,fun w hw=>?_⟩
 have hs:start∈ks:=List.mem_of_getElem? pX
 have h0:ix start ks=0:=by
  cases ks with
  |nil=>simp at hs
  |cons k l=>have:=pX;simp at this;subst this;simp[ix]
 obtain⟨h1,h2⟩:=EN (fin:=fin) hE w start hw hs
 rw[h0]at h1
 unfold h_ dK
 show List.getD (ks.map fin) (runN (FK v rs (ks.map fin)) 0 w) false=_
 rw[h1,List.getD_eq_getElem?_getD,List.getElem?_map,pq h2];rfl
theorem yR (hv:v≤6) (h:xU tr (2^v) start ks) (hE:nM tr (2^v) ks ks.length rs) (hn:ks.length≤4096):HasL (v:Int) ks.length (FK v rs (ks.map fin)) (fun w=>fin (w.foldl tr start)):=BG hv h.st hE hn
theorem Ey (hv:v≤6) {B:Nat} (hB:B≤4096) (h:CT tr (2^v) start B): ∃M,fm (v:Int) B M (fun w=>fin (w.foldl tr start)):=by
 obtain⟨C,⟨h1,h2⟩,h3⟩:=h
 obtain⟨D,hD⟩: ∃D,D=start::C.filter (fun k=>decide (k≠start)):=⟨_,F⟩
 have hm: ∀k,k∈D↔k∈C:=fun k=>by
  rw[hD]
  by_cases e:k=start
  ·subst e;simp[h1]
  ·simp[e]
 have hl:D.length≤B:=by
  have hf:(C.filter (fun k=>decide (k≠start))).length<C.length:=by
   have:=List.length_filter_lt_length_iff_exists (p:=fun k=>decide (k≠start)) (l:=C)
   exact this.2 ⟨start,h1,by simp⟩
  rw[hD,List.length_cons];omega
 have hE:nM tr (2^v) D D.length ((List.range D.length).map (iM tr (2^v) D)):=by
  refine⟨by simp,Nat.le_refl _,fun i hi=>by rw[List.getElem?_map,List.getElem?_range hi];rfl,fun i hi y hy=>?_⟩
  rw[hm]
  refine h2 _ ?_ y hy
  rw[←hm,List.getD_eq_getElem?_getD,List.getElem?_eq_getElem hi]
  exact List.getElem_mem hi
 have h4:=BG (fin:=fin) hv (show D[0]? =some start by rw[hD];rfl) hE (by omega)
 have h5:=HasL.rn h4
 exact⟨_,⟨h5.valid,Nat.le_trans h5.len hl,h5.vars,h5.h_⟩,h5.min⟩
end
structure SR where
 a:Value
 b:Value
 iH:List Item
abbrev c1 (r:SR):List Value:=[r.a]
abbrev c2 (r:SR):List Value:=[r.a,r.b]
def cR (f:SR→List Value) (qs:List SR):List Value:=qs.flatMap f
def fq (qs:List SR):List Item:=qs.flatMap SR.iH
theorem o4 (f:SR→List Value) (qs:List SR) (r:SR):cR f (qs++[r])=cR f qs++f r:=by simp[cR]
theorem sR (qs:List SR) (r:SR):fq (qs++[r])=fq qs++r.iH:=by simp[fq]
theorem gC {f:SR→List Value} {n:Nat} (h: ∀r,(f r).length=n): ∀(qs:List SR),(cR f qs).length=qs.length*n
 | []=>by simp[cR]
 |r::qs=>by
  have:=gC h qs
  have h0:=h r
  simp only[cR,List.flatMap_cons,List.length_append,List.length_cons]at this⊢
  rw[this,h0,Nat.succ_mul];omega
theorem qV {f:SR→List Value} {n:Nat} (h: ∀r,(f r).length=n): ∀ {qs:List SR} {i j:Nat} (hi:i<qs.length),j<n→(cR f qs)[i*n+j]? =(f qs[i])[j]?
 |r::qs,0,j,_,hj=>by
  have h0:=h r
  simp only[cR,List.flatMap_cons,Nat.zero_mul,Nat.zero_add,List.getElem_cons_zero]
  rw[List.getElem?_append_left (by omega)]
 |r::qs,i+1,j,hi,hj=>by
  have h0:=h r
  have ih:=qV h (qs:=qs) (i:=i) (j:=j) (by simpa using hi) hj
  simp only[cR,List.flatMap_cons,List.getElem_cons_succ]at ih⊢
  rw[List.getElem?_append_right (by rw[h0,Nat.succ_mul];omega),h0,show(i+1)*n+j-n=i*n+j by rw[Nat.succ_mul];omega]
  exact ih
theorem nh {qs:List SR} {i:Nat} (hi:i<qs.length) {it:Item} (h:it∈qs[i].iH):it∈fq qs:=List.mem_flatMap.2 ⟨_,List.getElem_mem hi,h⟩
theorem Ee {qs:List SR} {i:Nat} (hi:i<qs.length): ∀j (h:j< [qs[i].a,qs[i].b].length),(cR c2 qs)[i*2+j]? =some [qs[i].a,qs[i].b][j]:=fun j hj=>by
 rw[qV (f:=c2) (fun _=>rfl) hi (by simpa using hj)];exact List.getElem?_eq_getElem hj
theorem Nr {qs:List SR} {i:Nat} (hi:i<qs.length):(cR c1 qs)[i]? =some qs[i].a:=by
 have:=qV (f:=c1) (n:=1) (fun _=>rfl) (j:=0) hi (by omega)
 simpa using this
def Eb (Rp:Key→SR→Prop) (ks:List Key) (qs:List SR):Prop:=qs.length=ks.length∧ ∀i (h:i<qs.length),Rp (ks.getD i []) qs[i]
theorem Eb.one {Rp:Key→SR→Prop} {k:Key} {r:SR} (h:Rp k r):Eb Rp [k] [r]:=⟨F,fun i hi=>by simp at hi;subst hi;exact h⟩
theorem Eb.snoc {Rp:Key→SR→Prop} {ks:List Key} {qs:List SR} {k:Key} {r:SR} (h:Eb Rp ks qs) (hr:Rp k r):Eb Rp (ks++[k]) (qs++[r]):=by
 refine⟨by simp[h.1],fun i hi=>?_⟩
 rcases Nat.lt_or_ge i qs.length with c|c
 ·have:=h.2 i c
  rw[List.getElem_append_left c,List.getD_eq_getElem?_getD,List.getElem?_append_left (by rw[←h.1];exact c),←List.getD_eq_getElem?_getD]
  exact this
 ·simp only[List.length_append,List.length_cons,List.length_nil]at hi
  have e:i=qs.length:=by omega
  subst e
  rw[List.getElem_append_right (Nat.le_refl _),List.getD_eq_getElem?_getD,List.getElem?_append_right (by rw[h.1];exact Nat.le_refl _)]
  simpa[h.1]using hr
theorem qO (A B Y Z X:List Item) (h:Sub A B):Sub (A++(Y++(Z++X))) (B++(X++(Y++Z))):=by
 obtain⟨l,h1,h2⟩:=h
 refine⟨l++(X++(Y++Z)),h1.append ?_,h2.append (List.Sublist.refl _)⟩
 rw[←List.append_assoc Y Z X]
 exact List.perm_append_comm
theorem o6 (A B Y Z:List Item) (h:Sub A B):Sub (A++Y) (B++(Y++Z)):=by
 obtain⟨l,h1,h2⟩:=h
 exact⟨l++Y,h1.append_right Y,h2.append (List.sublist_append_left Y Z)⟩
theorem my (A B X Y:List Item) (c:Item) (h:Sub (A++[c]) B):Sub (A++((X++[c])++Y)) (B++(X++Y)):=by
 obtain⟨l,h1,h2⟩:=h
 refine⟨l++(X++Y),?_,h2.append (List.Sublist.refl _)⟩
 refine List.Perm.trans ?_ (h1.append_right (X++Y))
 rw[List.append_assoc X,List.append_assoc A]
 exact List.Perm.append_left A ((List.perm_append_comm_assoc X [c] Y))
theorem cW (A B X Y:List Item) (h:Sub A B):Sub (A++Y) (B++(X++Y)):=by
 obtain⟨l,h1,h2⟩:=h
 exact⟨l++Y,h1.append_right Y,h2.append (List.sublist_append_right X Y)⟩
end Go.Lx

namespace Go.Lx
open Go.RowKit
def lg (n:Int):Prop:=n= -1∨(0≤n∧n<1000000000000)
def ji (n:Int):List UInt8:=if n= -1 then[45,49]else Lib.decDigits n.toNat
def gB (l:List Int):List UInt8:=l.flatMap fun n=>ji n++[32]
theorem EB:gB []=[]:=rfl
theorem nj (n:Int) (l:List Int):gB (n::l)=ji n++32::gB l:=by simp[gB]
theorem qP (l m:List Int):gB (l++m)=gB l++gB m:=by simp[gB]
theorem A5 {l:List Int} {i:Nat} (h:i<l.length):gB (l.take (i+1))=gB (l.take i)++ji l[i]++[32]:=by
 rw[List.take_succ_eq_append_getElem h,qP,nj];simp[gB]
theorem oY {n:Int} (h:lg n):(ji n).length≤12:=by
 unfold ji
 split
 ·decide
 ·rcases h with h|⟨h0,h1⟩
  ·contradiction
  ·exact rE 11 _ (by omega)
theorem nK: ∀ {l:List Int},(∀n∈l,lg n)→(gB l).length≤13*l.length
 | [],_=>by simp[gB]
 |n::l,h=>by
  have h1:=oY (h n (by simp));have h2:=nK (l:=l) fun x hx=>h x (by simp[hx])
  rw[nj];simp only[List.length_append,List.length_cons];omega
theorem pQ (n:Int): ∀b∈ji n,b.toNat=45∨(48≤b.toNat∧b.toNat<58):=by
 unfold ji
 split
 ·intro b hb;simp at hb;rcases hb with rfl|rfl<;>decide
 ·exact fun b hb=>.inr (pG _ b hb)
theorem Jd {a b:Int} (ha:lg a) (hb:lg b) (h:ji a=ji b):a=b:=by
 unfold ji at h
 by_cases h1:a= -1<;>by_cases h2:b= -1
 ·rw[h1,h2]
 ·rw[if_pos h1,if_neg h2]at h
  have:=pG b.toNat 45 (h▸by simp);simp at this
 ·rw[if_neg h1,if_pos h2]at h
  have:=pG a.toNat 45 (h▸by simp);simp at this
 ·rw[if_neg h1,if_neg h2]at h
  have:=nD _ _ h
  rcases ha with ha|ha<;>rcases hb with hb|hb<;>first|contradiction|omega
theorem wu: ∀ {x y p q:List UInt8},(∀b∈x,b≠32)→(∀b∈y,b≠32)→x++32::p=y++32::q→x=y∧p=q
 | [],[],p,q,_,_,h=>⟨F,by simpa using h⟩
 | [],c::y,p,q,_,hy,h=>by simp only[List.nil_append,List.cons_append,List.cons.injEq]at h;exact absurd h.1.symm (hy c (by simp))
 |c::x,[],p,q,hx,_,h=>by simp only[List.nil_append,List.cons_append,List.cons.injEq]at h;exact absurd h.1 (hx c (by simp))
 |c::x,c'::y,p,q,hx,hy,h=>by
  simp only[List.cons_append,List.cons.injEq]at h
  obtain⟨h1,h2⟩:=wu (fun b hb=>hx b (by simp[hb])) (fun b hb=>hy b (by simp[hb])) h.2
  exact⟨by rw[h.1,h1],h2⟩
theorem EC (n:Int): ∀b∈ji n,b≠32:=fun b hb e=>by subst e;have:=pQ n 32 hb;simp at this
theorem zq: ∀ {l m:List Int} {p q:List UInt8},(∀n∈l,lg n)→(∀n∈m,lg n)→(∀b t,p=b::t→b.toNat=124)→(∀b t,q=b::t→b.toNat=124)→gB l++p=gB m++q→l=m∧p=q
 | [],[],p,q,_,_,_,_,h=>⟨F,by simpa[gB]using h⟩
 | [],n::m,p,q,_,_,hp,_,h=>by
  rw[nj,EB,List.nil_append]at h
  cases hd:ji n with
  |nil=>rw[hd]at h;have:=hp 32 _ (by simpa using h);simp at this
  |cons c r=>
   rw[hd]at h
   have h1:=hp c _ (by simpa using h);have h2:=pQ n c (by simp[hd]);omega
 |n::l,[],p,q,_,_,_,hq,h=>by
  rw[nj,EB,List.nil_append]at h
  cases hd:ji n with
  |nil=>rw[hd]at h;have:=hq 32 _ (by simpa using h.symm);simp at this
  |cons c r=>
   rw[hd]at h
   have h1:=hq c _ (by simpa using h.symm);have h2:=pQ n c (by simp[hd]);omega
 |n::l,n'::m,p,q,hl,hm,hp,hq,h=>by
  rw[nj,nj,List.append_assoc,List.append_assoc,List.cons_append,List.cons_append]at h
  obtain⟨h1,h2⟩:=wu (EC n) (EC n') h
  obtain⟨h3,h4⟩:=zq (fun x hx=>hl x (by simp[hx])) (fun x hx=>hm x (by simp[hx])) hp hq h2
  exact⟨by rw[Jd (hl n (by simp)) (hm n' (by simp)) h1,h3],h4⟩
theorem wv {l m:List Int} (hl: ∀n∈l,lg n) (hm: ∀n∈m,lg n) (h:gB l=gB m):l=m:=
 (zq (p:=[]) (q:=[]) hl hm (by simp) (by simp) (by simpa using h)).1
end Go.Lx


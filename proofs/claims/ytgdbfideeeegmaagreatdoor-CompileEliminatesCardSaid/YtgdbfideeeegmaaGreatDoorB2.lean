/- Contracts of functions of the program, and what they answer. Conditions: those each theorem names. -/
import Derived.Test.YtgdbfideeeegmaaGreatDoorA2
import Derived.Test.YtgdbfideeeegmaaGreatDoorA7
import Derived.Test.YtgdbfideeeegmaaGreatDoorA8
import Derived.Test.YtgdbfideeeegmaaGreatDoorA6
import Derived.Test.YtgdbfideeeegmaaGreatDoorB0
import Derived.Test.YtgdbfideeeegmaaGreatDoorB1
import Derived.Test.YtgdbfideeeegmaaGreatDoorA9
import Derived.Laws.StructEq
import Derived.ChangeKeysEq
set_option linter.unusedSectionVars false
set_option linter.unusedSimpArgs false
set_option linter.unusedVariables false
set_option linter.unnecessarySimpa false
set_option maxHeartbeats 8000000
set_option maxRecDepth 20000
namespace Go.Proofs.YtgdbfideeeegmaaGreatDoor
open Go.Lx Go.RowKit _root_.Go.Proofs.Tryz
theorem CV (w:World) [cG Tryz.prog w] (cb:Nat) (eb:Option Addr) (en ec vs B L:Nat) (eu:Sl w (aD cb) [.slice eb en ec,vI (vs:Int),vI (B:Int)]) (gm:vs≤6) (hL:2^vs=L) (iP:1≤B) (hB:B≤4096)
  (tr:Key→Nat→Key) (fin:Key→Bool) (start:Key) (Rp:Key→SR→Prop) (r0:SR) (fk fn ff:Value) (B5:Rp start r0) (Nn:r0.iH=[]) (pW: ∀k r,Rp k r→dD r.a=true∧dD r.b=true)
  (vU: ∀w1 k r,Inv w [] w1→Rp k r→(∀it∈r.iH,it.P w1)→dW Tryz.prog w1 fk [(.agg #[r.a,r.b])] [] (fun v O'=>v=str k∧O'=[]))
  (dU: ∀w1 k r x,Inv w [] w1→Rp k r→(∀it∈r.iH,it.P w1)→x<L→dW Tryz.prog w1 fn [(.agg #[r.a,r.b]),.int .u8 (x:Int)] [] (fun v N=> ∃r',v=(.agg #[r'.a,r'.b])∧N=r'.iH∧Rp (tr k x) r'))
  (ud: ∀w1 k r,Inv w [] w1→Rp k r→(∀it∈r.iH,it.P w1)→dW Tryz.prog w1 ff [(.agg #[r.a,r.b])] [] (fun v O'=>v=.bool (fin k)∧O'=[])):
  dq Tryz.prog w (.iface 163 (.agg #[])) 74 [(du (aD cb) 0),(.agg #[r0.a,r0.b]),fk,fn,ff] [] (fun v N=> ∃M k',v=dV M k'∧N=[dI 56 4 3 M k']∧fm (vs:Int) B M (fun u=>fin (u.foldl tr start))∧CT tr L start B) (¬CT tr L start B):=by
 refine dA func74 F ntmps74 F ?_
 have Lq:L≤64:=by rw[←hL];exact Nat.pow_le_pow_right (by decide) gm
 obtain⟨Vu,An⟩:=pW _ _ B5
 refine ai (aj F (cL (cs:=[r0.a,r0.b]) F F (fun z1=>?_)))
 refine aj F (aR aX F (fun z2=>?_))
 refine ae (ai (ad (cN 1 iC F fe F F F) (aj F (bH (m:=1) (parts:=[(0,_)]) (cs:=[r0.a,r0.b]) tD fe (by decide) (by kernel_rfl) F (fun z3=>?_)))))
 refine TO.qa F (ae (ai (aj F (lj str (fun n:Nat=>Value.int .i64 (n:Int)) (fun m4=>?_)))))
 refine ah F (ad (cN 3 iC F fe F F F) ?_)
 have ng:=(cF (O:=[df str (fun n:Nat=>Value.int .i64 (n:Int)) m4 [],ak (aD z3) 1 122 2 [r0.a,r0.b],oI z2 25 [(vI 0),(vI 0),nS,nS],oI z1 122 [r0.a,r0.b]]) fun w1 hI=>haveI:=dp hI;vU w1 start r0 hI.lY B5 (by rw[Nn];simp))
 refine aj F (dQ ng F F ?_)
 clear ng
 rintro vr O' ⟨N,rfl,rfl,rfl⟩
 refine aj F (fD (a:=start) (v:=(0:Nat)) 0 fV (e8.string rO) F F F F (by simp) ?_)
 refine ah F (TO.qa F (ae (ai (ah F (ad (aP F) (ad (bG kR F aM F F (aB eu) (by first|omega|(simp;done)|(simp;omega)|(simp_all;done)|(simp_all;omega))) (ad (bS dh F F (aB eu) F) (ad (bE (cs:=[vN vs,(vI 0),nS,nS]) gK aX (by kernel_rfl)) (aj F (aR aX F (fun z5=>?_)))))))))))
 refine aj F (bj (vs:=[vN vs,(vI 0),nS,nS]) 0 aX F F F F ?_)
 refine ae (ax (ai (TO.qa F (ae (aC (T.dt 4 1 ?_))))))
 refine T.dt 56 1 ?_
 refine cu (O':=[ak (aD z3) 1 122 2 (cR c2 [r0]),df str (fun n:Nat=>Value.int .i64 (n:Int)) m4 [start].zipIdx,ak none 0 56 1 (bO []),ak none 0 4 1 (aU []),oI z5 25 [vN vs,(vI 0),nS,nS],oI z2 25 [(vI 0),(vI 0),nS,nS],oI z1 122 [r0.a,r0.b]]++(bl 3 []++fq [r0])) (by rw[show fq [r0]=[] by simp[fq,Nn]];exact(au [4,3,0,0,0,0,0] F)) ?_
 refine cE (fun(s:Nat) ρ O=> ∃(ks:List Key) (qs:List SR) (rq:List Rec) (sb ob fb:Option Addr) (sc oc fc:Nat),O=([ak sb sc 122 2 (cR c2 qs),df str (fun n:Nat=>Value.int .i64 (n:Int)) m4 ks.zipIdx,ak ob oc 56 1 (bO rq),ak fb fc 4 1 (aU ((ks.take s).map fin)),oI z5 25 [vN vs,(vI 0),(.slice ob s oc),(.slice fb s fc)],oI z2 25 [(vI 0),(vI 0),nS,nS],oI z1 122 [r0.a,r0.b]]++(bl 3 rq++fq qs))∧uo tr L start s=ks∧xU tr L start ks∧Eb Rp ks qs∧ks.length≤B∧nM tr L ks s (nums rq)∧bZ [(0,(du (aD cb) 0)),(1,(.agg #[r0.a,r0.b])),(2,fk),(3,fn),(4,ff),(6,(.pointer (aD z1))),(10,(.pointer (aD z2))),(11,(.slice sb qs.length sc)),(12,(.map (some m4))),(13,(.pointer (aD z5))),(14,vN s)] ρ) (fun s=>B-s) 0 ?_ ?_
 ·exact⟨[start],[r0],[],(aD z3),none,none,1,0,0,F,F,xU.one _ _ _,Eb.one B5,by simpa using iP,⟨F,Nat.zero_le _,fun i hi=>absurd hi (by omega),fun i hi=>absurd hi (by omega)⟩,(.of F)⟩
 rintro s ρ O ⟨ks,qs,rq,sb,ob,fb,sc,oc,fc,rfl,nq,hF,hR,J_,hE,hH⟩
 obtain⟨eP,rfl⟩:=hH.elim
 clear hH
 have wO:=hR.1
 have yw:rq.length=s:=by have:=hE.len;simpa using this
 have Ha:=hE.le
 refine ax (ai (ah F (ah F (ad (bL tD F) (ad (bI F F) (ae (aw F (fun hc=>?_) (fun hc=>?_))))))))
 ·have oM:s<qs.length:=by omega
  have Ka:s<ks.length:=by omega
  refine aq (ax (aC (ai (ah F (ad (aP F) (ad (bG kR F aM F F (aB eu) (by first|omega|(simp;done)|(simp;omega)|(simp_all;done)|(simp_all;omega))) (ad (bS dh F F (aB eu) F) (ad (a8 (mJ (v:=vs) F F (by omega)) (v':=vN L) (by rw[hL])) (aj F (bV (m:=L) bT aM F F (by omega) (by omega) (fun z6=>?_)))))))))))
  refine TO.qa F (ae (ax (ai (ah F (ad (bL bT F) (ah F (ae (aC ?_))))))))
  refine cE (fun(x:Nat) ρ O=> ∃(cV:List Key) (eg:List SR) (ys:List Int) (tb:Option Addr) (tc:Nat),O=([ak (aD z6) L 3 1 (ints ys),ak tb tc 122 2 (cR c2 eg),df str (fun n:Nat=>Value.int .i64 (n:Int)) m4 cV.zipIdx,ak ob oc 56 1 (bO rq),ak fb fc 4 1 (aU ((ks.take s).map fin)),oI z5 25 [vN vs,(vI 0),(.slice ob s oc),(.slice fb s fc)],oI z2 25 [(vI 0),(vI 0),nS,nS],oI z1 122 [r0.a,r0.b]]++(bl 3 rq++fq eg))∧x≤L∧ys.length=L∧xU tr L start cV∧Eb Rp cV eg∧cV.length≤B∧cV=((List.range x).map (tr (ks.getD s []))).foldl add ks∧(∀i,i<x→ys[i]? =some ((ix (tr (ks.getD s []) i) cV:Nat):Int))∧bZ [(0,(du (aD cb) 0)),(1,(.agg #[r0.a,r0.b])),(2,fk),(3,fn),(4,ff),(6,(.pointer (aD z1))),(10,(.pointer (aD z2))),(11,(.slice tb eg.length tc)),(12,(.map (some m4))),(13,(.pointer (aD z5))),(14,vN s),(15,(.slice (aD z6) L L)),(45,vI (L:Int)),(46,vN x)] ρ) (fun x=>L-x) 0 ?_ ?_
  ·exact⟨ks,qs,List.replicate L 0,sb,sc,by simp,Nat.zero_le _,by simp,hF,hR,J_,F,fun i hi=>absurd hi (by omega),(.of F)⟩
  rintro x ρ O ⟨cV,eg,ys,tb,tc,rfl,hx,yN,Ec,sx,A_,l7,wS,hH⟩
  obtain⟨eP,rfl⟩:=hH.elim
  clear hH
  have og:ks<+:cV:=l7▸eY _ _
  have mP:cV.getD s []=ks.getD s []:=jr og Ka
  have Pk:=og.length_le
  have Ba:=sx.1
  have p6:s<eg.length:=by omega
  have H5:=sx.2 s p6
  rw[mP]at H5
  refine ai (ad (bI F F) (ae (ax (aw F (fun hc=>?_) (fun hc=>?_)))))
  ·have mv:x<L:=by omega
   have B6:x<L:=by omega
   have Ed:ks.getD s []∈cV:=by rw[←mP,List.getD_eq_getElem?_getD,List.getElem?_eq_getElem (by omega),Option.getD_some];exact List.getElem_mem _
   refine aq (ax (aC (ai (ah F (TO.qa F (ae (ai (ah F (ah F (ah F (ad (db (i:=s) tD fe F F (cw (mG 1 F)) p6 (by rw[gC (f:=c2) (n:=2) (fun _=>rfl)];omega)) (ad (dT (vs:=[eg[s].a,eg[s].b]) iC F fe F F (Nat.succ_pos _) (cw (mG 1 F)) (Ee p6)) (ah F (ad (ef dh eC F (mm (by omega))) ?_))))))))))))))
   have vS:=(cF (O:=([ak (aD z6) L 3 1 (ints ys),ak tb tc 122 2 (cR c2 eg),df str (fun n:Nat=>Value.int .i64 (n:Int)) m4 cV.zipIdx,ak ob oc 56 1 (bO rq),ak fb fc 4 1 (aU ((ks.take s).map fin)),oI z5 25 [vN vs,(vI 0),(.slice ob s oc),(.slice fb s fc)],oI z2 25 [(vI 0),(vI 0),nS,nS],oI z1 122 [r0.a,r0.b]]++(bl 3 rq++fq eg))) fun w1 hI=>haveI:=dp hI;dU w1 (ks.getD s []) eg[s] x hI.lY H5 (fun it di=>hI.holds it (List.mem_append_right _ (List.mem_append_right _ (nh p6 di)))) B6)
   refine aj F (dQ vS F F ?_)
   clear vS
   rintro vr O' ⟨N9,rfl,r9,rfl,rfl,B7⟩
   obtain⟨No,Rj⟩:=pW _ _ B7
   refine bM (O':=([ak (aD z6) L 3 1 (ints ys),ak tb tc 122 2 (cR c2 eg),df str (fun n:Nat=>Value.int .i64 (n:Int)) m4 cV.zipIdx,ak ob oc 56 1 (bO rq),ak fb fc 4 1 (aU ((ks.take s).map fin)),oI z5 25 [vN vs,(vI 0),(.slice ob s oc),(.slice fb s fc)],oI z2 25 [(vI 0),(vI 0),nS,nS],oI z1 122 [r0.a,r0.b]]++(r9.iH++(bl 3 rq++fq eg)))) (by exact cQ [] _ r9.iH (bl 3 rq++fq eg)) ?_
   refine aj F (aR fe F (fun z7=>?_))
   refine aj F (sH (v:=(.agg #[r9.a,r9.b])) (vs:=[r9.a,r9.b]) 0 fe F F F F (by simp[No,Rj]) F (by simp[dl]) ?_)
   refine ae (ai (ah F (ah F (ad (cN 0 iC F fe F F F) ?_))))
   have vG:=(cF (O:=([oI z7 122 [r9.a,r9.b],ak (aD z6) L 3 1 (ints ys),ak tb tc 122 2 (cR c2 eg),df str (fun n:Nat=>Value.int .i64 (n:Int)) m4 cV.zipIdx,ak ob oc 56 1 (bO rq),ak fb fc 4 1 (aU ((ks.take s).map fin)),oI z5 25 [vN vs,(vI 0),(.slice ob s oc),(.slice fb s fc)],oI z2 25 [(vI 0),(vI 0),nS,nS],oI z1 122 [r0.a,r0.b]]++(r9.iH++(bl 3 rq++fq eg)))) fun w1 hI=>haveI:=dp hI;vU w1 (tr (ks.getD s []) x) r9 hI.lY B7 (fun it di=>hI.holds it (List.mem_append_right _ (List.mem_append_left _ di))))
   refine aj F (dQ vG F F ?_)
   clear vG
   rintro vr O' ⟨N,rfl,rfl,rfl⟩
   refine ad (a8 (jg (a:=tr (ks.getD s []) x) fV aM (e8.string rO) F F (mG 3 F)) (v':=(.tuple #[vN (if tr (ks.getD s []) x∈cV then ix (tr (ks.getD s []) x) cV else 0),.bool (decide (tr (ks.getD s []) x∈cV))])) (by rw[kE];generalize tr (ks.getD s []) x=k9;by_cases h9:k9∈cV<;>simp[h9])) (ah F (ad (bm (vs:=_) F F) (ad (bm (vs:=_) F F) (TO.qa F (TO.qa F (ae (ax (ai (ah F (ad (f_ F) (ae (T.cond F (fun hc=>?_) (fun hc=>?_)))))))))))))
   ·have xV:tr (ks.getD s []) x∉cV:=by simpa using hc
    have iW:=yO xV
    refine ai (ah F (ad (bL tD F) (TO.qa F (ae (ai (ah F (ah F (ad (cN 0 iC F fe F F F) ?_))))))))
    have vV:=(cF (O:=([oI z7 122 [r9.a,r9.b],ak (aD z6) L 3 1 (ints ys),ak tb tc 122 2 (cR c2 eg),df str (fun n:Nat=>Value.int .i64 (n:Int)) m4 cV.zipIdx,ak ob oc 56 1 (bO rq),ak fb fc 4 1 (aU ((ks.take s).map fin)),oI z5 25 [vN vs,(vI 0),(.slice ob s oc),(.slice fb s fc)],oI z2 25 [(vI 0),(vI 0),nS,nS],oI z1 122 [r0.a,r0.b]]++(r9.iH++(bl 3 rq++fq eg)))) fun w1 hI=>haveI:=dp hI;vU w1 (tr (ks.getD s []) x) r9 hI.lY B7 (fun it di=>hI.holds it (List.mem_append_right _ (List.mem_append_left _ di))))
    refine aj F (dQ vV F F ?_)
    clear vV
    rintro vr O' ⟨N,rfl,rfl,rfl⟩
    refine ah F (aj F (oD (a:=tr (ks.getD s []) x) (v:=eg.length) 3 fV (e8.string rO) F F F F (by rw[lO];exact xV) ?_))
    refine ae (ai (ah F (ad (cN 0 iC F fe F F F) (aj F (bH (m:=1) (parts:=[(0,_)]) (cs:=[r9.a,r9.b]) tD fe (by decide) (by kernel_rfl) F (fun z8=>?_))))))
    refine aj F (bX 3 tD tD fe F F F F (by rw[gC (f:=c2) (n:=2) (fun _=>rfl)]) (by decide) (Src.row (j:=0) F (by simp)) (by simp[No,Rj]) (by omega) (by decide) (by decide) (fun z9 k_=>?_))
    refine TO.qa F (ae (ai (ah F (ah F (ad (aP F) (ad (bG kR F aM F F (aB eu) (by first|omega|(simp;done)|(simp;omega)|(simp_all;done)|(simp_all;omega))) (ad (bS dh F F (aB eu) F) (ad (gW F F) (ae (aw F (fun hc=>?_) (fun hc=>?_)))))))))))
    ·have Np:eg.length≥B:=by omega
     refine aH (ad (bE r5 vT F) (ad (nf A6 F) ?_))
     exact dP F (r8 F (fun _=>⟨F,(Ec.add Ed B6).Pl (by rw[iW];simp;omega)⟩))
    have Nq: ¬eg.length≥B:=by omega
    refine aq (aH (ah F (ah F (ah F (ad (cq (i:=x) bT aM F F (cw (mG 2 F)) (by omega) (by rw[List.length_map];omega)) (aj F (jW (j:=x) (v:=vI (eg.length:Int)) (vs:=[(vI (eg.length:Int))]) (cs:=ints ys) 2 aM F F F F F (by simp) F (by first|(simp;omega)|(simp_all;omega)) ?_)))))))
    refine bM (O':=([ak (aD z8) 1 122 2 [r9.a,r9.b],oI z7 122 [r9.a,r9.b],ak (aD z6) L 3 1 (ints (ys.set x ((ix (tr (ks.getD s []) x) (add cV (tr (ks.getD s []) x)):Nat):Int))),ak z9 k_ 122 2 ((cR c2 eg)++[r9.a,r9.b]),df str (fun n:Nat=>Value.int .i64 (n:Int)) m4 (cV.zipIdx++[(tr (ks.getD s []) x,eg.length)]),ak ob oc 56 1 (bO rq),ak fb fc 4 1 (aU ((ks.take s).map fin)),oI z5 25 [vN vs,(vI 0),(.slice ob s oc),(.slice fb s fc)],oI z2 25 [(vI 0),(vI 0),nS,nS],oI z1 122 [r0.a,r0.b]]++(r9.iH++(bl 3 rq++fq eg)))) (by rw[show dl (ints ys) x [(vI (eg.length:Int))]=ints (ys.set x ((ix (tr (ks.getD s []) x) (add cV (tr (ks.getD s []) x)):Nat):Int))from(by rw[iW,ep xV,show ix (tr (ks.getD s []) x) [tr (ks.getD s []) x]=0 by simp[ix],Nat.add_zero,←Ba];simp[dl])];exact a_ (List.Sublist.refl _)) ?_
    refine ae (aH (ad (cj (a:=x) (b:=1) F F (by omega)) (ah F (ae ?_))))
    have xa: ∀y,y<x→tr (ks.getD s []) y∈cV:=fun y hy=>by rw[l7,dj];exact .inr (List.mem_map_of_mem (List.mem_range.2 hy))
    have vW: ∀i,i<x+1→(ys.set x ((ix (tr (ks.getD s []) x) (add cV (tr (ks.getD s []) x)):Nat):Int))[i]? =some ((ix (tr (ks.getD s []) i) (add cV (tr (ks.getD s []) x)):Nat):Int):=fun i hi=>by
     by_cases e:i=x
     ·subst e;rw[List.getElem?_set_self (by omega)]
     ·rw[List.getElem?_set_ne (fun h=>e h.symm),wS i (by omega),fM (gD _ _) (xa i (by omega))]
    have tw:=sx.snoc B7
    rw[←iW]at tw
    have Tx:=Ec.add Ed B6
    exact⟨x+1,by omega,[ak (aD z6) L 3 1 (ints (ys.set x ((ix (tr (ks.getD s []) x) (add cV (tr (ks.getD s []) x)):Nat):Int))),ak z9 k_ 122 2 (cR c2 (eg++[r9])),df str (fun n:Nat=>Value.int .i64 (n:Int)) m4 ((add cV (tr (ks.getD s []) x)).zipIdx),ak ob oc 56 1 (bO rq),ak fb fc 4 1 (aU ((ks.take s).map fin)),oI z5 25 [vN vs,(vI 0),(.slice ob s oc),(.slice fb s fc)],oI z2 25 [(vI 0),(vI 0),nS,nS],oI z1 122 [r0.a,r0.b]]++(bl 3 rq++fq (eg++[r9])),(by rw[sR,o4,iW,show(cV++[tr (ks.getD s []) x]).zipIdx=cV.zipIdx++[(tr (ks.getD s []) x,eg.length)] by rw[List.zipIdx_append,Ba];simp];exact qO _ _ _ _ _ (by exact Sub.d (.d (.k (.k (.k (.k (.k (.k (.k (.k .z))))))))))),add cV (tr (ks.getD s []) x),eg++[r9],_,z9,k_,F,by omega,by simp[yN],Tx,tw,by rw[iW];simp;omega,by rw[fF,←l7],vW,⟨F,F,F,F,F,F,F,(show Value.slice z9 (eg.length+1) k_=_ by rw[List.length_append];rfl),F,F,F,F,F,F,trivial⟩⟩
   have xV:tr (ks.getD s []) x∈cV:=by simpa using hc
   have iW:=yP xV
   refine aq (aH (ah F (ah F (ah F (ad (cq (i:=x) bT aM F F (cw (mG 1 F)) (by omega) (by rw[List.length_map];omega)) (aj F (jW (j:=x) (v:=vN (if tr (ks.getD s []) x∈cV then ix (tr (ks.getD s []) x) cV else 0)) (vs:=[(vN (if tr (ks.getD s []) x∈cV then ix (tr (ks.getD s []) x) cV else 0))]) (cs:=ints ys) 1 aM F F F F F (by simp) F (by first|(simp;omega)|(simp_all;omega)) ?_)))))))
   refine bM (O':=([oI z7 122 [r9.a,r9.b],ak (aD z6) L 3 1 (ints (ys.set x ((ix (tr (ks.getD s []) x) (add cV (tr (ks.getD s []) x)):Nat):Int))),ak tb tc 122 2 (cR c2 eg),df str (fun n:Nat=>Value.int .i64 (n:Int)) m4 cV.zipIdx,ak ob oc 56 1 (bO rq),ak fb fc 4 1 (aU ((ks.take s).map fin)),oI z5 25 [vN vs,(vI 0),(.slice ob s oc),(.slice fb s fc)],oI z2 25 [(vI 0),(vI 0),nS,nS],oI z1 122 [r0.a,r0.b]]++(r9.iH++(bl 3 rq++fq eg)))) (by rw[show dl (ints ys) x [(vN (if tr (ks.getD s []) x∈cV then ix (tr (ks.getD s []) x) cV else 0))]=ints (ys.set x ((ix (tr (ks.getD s []) x) (add cV (tr (ks.getD s []) x)):Nat):Int))from(by rw[iW,if_pos xV];simp[dl])];exact a_ (List.Sublist.refl _)) ?_
   refine ae (aH (ad (cj (a:=x) (b:=1) F F (by omega)) (ah F (ae ?_))))
   have xa: ∀y,y<x→tr (ks.getD s []) y∈cV:=fun y hy=>by rw[l7,dj];exact .inr (List.mem_map_of_mem (List.mem_range.2 hy))
   have vW: ∀i,i<x+1→(ys.set x ((ix (tr (ks.getD s []) x) (add cV (tr (ks.getD s []) x)):Nat):Int))[i]? =some ((ix (tr (ks.getD s []) i) (add cV (tr (ks.getD s []) x)):Nat):Int):=fun i hi=>by
    by_cases e:i=x
    ·subst e;rw[List.getElem?_set_self (by omega)]
    ·rw[List.getElem?_set_ne (fun h=>e h.symm),wS i (by omega),fM (gD _ _) (xa i (by omega))]
   have tw:=sx
   rw[←iW]at tw
   exact⟨x+1,by omega,[ak (aD z6) L 3 1 (ints (ys.set x ((ix (tr (ks.getD s []) x) (add cV (tr (ks.getD s []) x)):Nat):Int))),ak tb tc 122 2 (cR c2 eg),df str (fun n:Nat=>Value.int .i64 (n:Int)) m4 ((add cV (tr (ks.getD s []) x)).zipIdx),ak ob oc 56 1 (bO rq),ak fb fc 4 1 (aU ((ks.take s).map fin)),oI z5 25 [vN vs,(vI 0),(.slice ob s oc),(.slice fb s fc)],oI z2 25 [(vI 0),(vI 0),nS,nS],oI z1 122 [r0.a,r0.b]]++(bl 3 rq++fq eg),(by rw[iW];exact cW _ _ _ _ (by exact Sub.d (.k (.k (.k (.k (.k (.k (.k (.k .z)))))))))),add cV (tr (ks.getD s []) x),eg,_,tb,tc,F,by omega,by simp[yN],Ec.add Ed B6,tw,by rw[iW];exact A_,by rw[fF,←l7],vW,(.of F)⟩
  have mw: ¬x<L:=by omega
  refine bn ?_
  refine T.ds [ak tb tc 122 2 (cR c2 eg),oI z5 25 [vN vs,(vI 0),(.slice ob s oc),(.slice fb s fc)]] [(0,0),(1,0),(2,0),(5,0),(6,0),(7,0),(8,0),(9,0),(10,0),(11,0),(3,1),(4,1),(15,0),(12,1),(13,1),(14,1),(16,2),(17,2),(18,2)] (by exact Sub.d (.k (.d (.d (.d (.k .z)))))) ?_
  refine am F (aJ cy F cU F F) (am F (aO 1 dB F F F F) (am F (aF F) (am F (aJ cy F ce F F) (am F (aO 1 dF F F F F) (am F (aF F) (am F (aF F) (am F (aF F) (am F (db (i:=s) tD fe F F (cw (mG 0 F)) p6 (by rw[gC (f:=c2) (n:=2) (fun _=>rfl)];omega)) (am F (dT (vs:=[eg[s].a,eg[s].b]) iC F fe F F (Nat.succ_pos _) (cw (mG 0 F)) (Ee p6)) ?_)))))))))
  refine bJ F F (bN (v:=(.slice (aD z6) L L)) dB bP F F F (fun mM=>⟨by exact Sub.d (.d (.k (.d (.d (.d (.k .z)))))),?_⟩))
  refine bJ F F (bX 4 dB dB bP F F F F (by simp;omega) (by decide) (Src.row (j:=0) F (by simp)) (by simp[dD]) (by omega) (by decide) (by decide) (fun z12 nN=>⟨by exact Sub.d (.d (.k (.d (.d (.d (.k .z)))))),?_⟩))
  refine am F (aJ cy F cU F F) ?_
  have tB:=(cF (O:=([ak (aD mM) 1 56 1 [(.slice (aD z6) L L)],ak (aD z6) L 3 1 (ints ys),ak tb tc 122 2 (cR c2 eg),df str (fun n:Nat=>Value.int .i64 (n:Int)) m4 cV.zipIdx,ak z12 nN 56 1 ((bO rq)++[(.slice (aD z6) L L)]),ak fb fc 4 1 (aU ((ks.take s).map fin)),oI z5 25 [vN vs,(vI 0),(.slice ob s oc),(.slice fb s fc)],oI z2 25 [(vI 0),(vI 0),nS,nS],oI z1 122 [r0.a,r0.b]]++(bl 3 rq++fq eg))) fun w1 hI=>haveI:=dp hI;ud w1 (ks.getD s []) eg[s] hI.lY H5 (fun it di=>hI.holds it (List.mem_append_right _ (List.mem_append_right _ (nh p6 di)))))
  refine bJ F F (dQ tB F F ?_)
  clear tB
  rintro vr O' ⟨N,rfl,rfl,rfl⟩
  refine⟨by exact Sub.d (.d (.k (.d (.d (.d (.k .z)))))),?_⟩
  refine bJ F F (bN (v:=.bool (fin (ks.getD s []))) dF dc F F F (fun uy=>⟨by exact Sub.d (.d (.d (.k (.d (.d (.d (.k .z))))))),?_⟩))
  refine bJ F F (bX 6 dF dF dc F F F F (by simp;omega) (by decide) (Src.row (j:=0) F (by simp)) (by simp[dD]) (by omega) (by decide) (by decide) (fun vL o5=>⟨by exact Sub.d (.d (.d (.k (.d (.d (.d (.k .z))))))),?_⟩))
  refine bq F F (bj (vs:=[(.slice z12 (s+1) nN)]) 7 cU F F F F ?_)
  refine bq F F (dG F F (aJ cy F ce F F) ?_)
  refine bq F F (bj (vs:=[(.slice vL (s+1) o5)]) 7 ce F F F F ?_)
  refine bu ?_
  have j8:aU ((cV.take (s+1)).map fin)=aU ((ks.take s).map fin)++[.bool (fin (ks.getD s []))]:=by
   rw[List.take_succ_eq_append_getElem (by omega:s<cV.length),List.map_append,show cV.take s=ks.take s by obtain⟨t9,rfl⟩:=og;rw[List.take_append_of_le_length (by omega)],←mP,show cV.getD s []=cV[s] by rw[List.getD_eq_getElem?_getD,List.getElem?_eq_getElem (by omega),Option.getD_some]]
   simp
  refine cu (O':=[ak tb tc 122 2 (cR c2 eg),df str (fun n:Nat=>Value.int .i64 (n:Int)) m4 cV.zipIdx,ak z12 nN 56 1 (bO (rq++[⟨(aD z6),L,ys⟩])),ak vL o5 4 1 (aU ((cV.take (s+1)).map fin)),oI z5 25 [vN vs,(vI 0),(.slice z12 (s+1) nN),(.slice vL (s+1) o5)],oI z2 25 [(vI 0),(vI 0),nS,nS],oI z1 122 [r0.a,r0.b]]++(bl 3 (rq++[⟨(aD z6),L,ys⟩])++fq eg)) (by
   rw[j8,show bO (rq++[⟨(aD z6),L,ys⟩])=(bO rq)++[(.slice (aD z6) L L)] by simp[Rec.val,yN],show bl 3 (rq++[⟨(aD z6),L,ys⟩])=bl 3 rq++[ak (aD z6) L 3 1 (ints ys)] by simp[bl,Rec.lZ]]
   exact my [ak tb tc 122 2 (cR c2 eg),df str (fun n:Nat=>Value.int .i64 (n:Int)) m4 cV.zipIdx,ak z12 nN 56 1 ((bO rq)++[(.slice (aD z6) L L)]),ak vL o5 4 1 ((aU ((ks.take s).map fin))++[.bool (fin (ks.getD s []))]),oI z5 25 [vN vs,(vI 0),(.slice z12 (s+1) nN),(.slice vL (s+1) o5)],oI z2 25 [(vI 0),(vI 0),nS,nS],oI z1 122 [r0.a,r0.b]] [ak (aD uy) 1 4 1 [.bool (fin (ks.getD s []))],ak (aD mM) 1 56 1 [(.slice (aD z6) L L)],ak (aD z6) L 3 1 (ints ys),ak tb tc 122 2 (cR c2 eg),df str (fun n:Nat=>Value.int .i64 (n:Int)) m4 cV.zipIdx,ak z12 nN 56 1 ((bO rq)++[(.slice (aD z6) L L)]),ak vL o5 4 1 ((aU ((ks.take s).map fin))++[.bool (fin (ks.getD s []))]),oI z5 25 [vN vs,(vI 0),(.slice z12 (s+1) nN),(.slice vL (s+1) o5)],oI z2 25 [(vI 0),(vI 0),nS,nS],oI z1 122 [r0.a,r0.b]] (bl 3 rq) (fq eg) (ak (aD z6) L 3 1 (ints ys)) (by exact Sub.d (.d (.dL [ak (aD z6) L 3 1 (ints ys)] _ (.dL [ak (aD z6) L 3 1 (ints ys)] _ (.dL [ak (aD z6) L 3 1 (ints ys)] _ (.dL [ak (aD z6) L 3 1 (ints ys)] _ (.dL [ak (aD z6) L 3 1 (ints ys)] _ (.dL [ak (aD z6) L 3 1 (ints ys)] _ (.dL [ak (aD z6) L 3 1 (ints ys)] _ (.k .z))))))))))) ?_
  refine aH (ah F (ad (cj (a:=s) (b:=1) F F (by omega)) (TO.qa F (ae ?_))))
  have wX:x=L:=by omega
  have Lr:ys=iM tr L cV s:=by
   apply List.ext_getElem?
   intro i
   by_cases hi:i<L
   ·rw[wS i (by omega)];simp only[iM,mP];simp[hi]
   ·rw[List.getElem?_eq_none (by omega),List.getElem?_eq_none (by simp[iM];omega)]
  have xa: ∀y,y<L→tr (ks.getD s []) y∈cV:=fun y hy=>by rw[l7,dj];exact .inr (List.mem_map_of_mem (List.mem_range.2 (by omega)))
  have KQ:nM tr L cV (s+1) (nums (rq++[⟨(aD z6),L,ys⟩])):=by
   have:=hE.snoc og Ka Lr (by rw[mP];exact xa)
   simpa[nums]using this
  exact⟨s+1,by omega,_,a_ (List.Sublist.refl _),cV,eg,rq++[⟨(aD z6),L,ys⟩],tb,z12,vL,tc,nN,o5,F,by rw[uo,nq,l7,wX],Ec,sx,A_,KQ,(.of F)⟩
 have oN: ¬s<qs.length:=by omega
 refine bn ?_
 refine ax ?_
 have B4:s=ks.length:=by omega
 have nL:rq.length=(nums rq).length:=by simp
 obtain⟨W,hW⟩: ∃W,W=FK vs (nums rq) (ks.map fin):=⟨_,F⟩
 have yQ:HasL (vs:Int) ks.length W (fun u=>fin (u.foldl tr start)):=by rw[hW];exact yR gm (by rw[hL];exact hF) (by rw[hL,←B4];exact hE) (by omega)
 have e1:nums rq=W.next:=by rw[hW];rfl
 have e2:(ks.take s).map fin=W.aA:=by rw[hW,List.take_of_length_le (by omega)];rfl
 have e3:(vs:Int)=W.vars:=by rw[hW];rfl
 have e4:(0:Int)=W.start:=by rw[hW];rfl
 have e5:s=W.next.length:=by rw[←e1,←nL];omega
 have e6:s=W.aA.length:=by rw[yQ.valid.fin,←e5]
 obtain⟨M,hM⟩: ∃m,fY W=m:=⟨_,F⟩
 have Ef:fm (vs:Int) ks.length M (fun u=>fin (u.foldl tr start)):=hM▸yQ.rn
 obtain⟨z9,Pm⟩: ∃z:DK,z=⟨ob,oc,fb,fc,rq⟩:=⟨_,F⟩
 refine cu (O':=([ak ob oc 56 1 (bO rq),ak fb fc 4 1 (aU ((ks.take s).map fin)),oI z5 25 [vN vs,(vI 0),(.slice ob s oc),(.slice fb s fc)],oI z2 25 [(vI 0),(vI 0),nS,nS],oI z1 122 [r0.a,r0.b]]++bl 3 rq)) (o6 _ _ _ _ (by exact Sub.d (.d (.k (.k (.k (.k (.k .z)))))))) ?_
 refine cu (O':=(([ak ob oc 56 1 (bO rq),ak fb fc 4 1 (aU W.aA)]++bl 3 rq)++[oI z5 25 [(vI W.vars),(vI W.start),(.slice ob W.next.length oc),(.slice fb W.aA.length fc)],oI z2 25 [(vI 0),(vI 0),nS,nS],oI z1 122 [r0.a,r0.b]])) (by rw[←e5,←e6,←e2,←e3,←e4];exact dm [ak ob oc 56 1 (bO rq),ak fb fc 4 1 (aU ((ks.take s).map fin))] (bl 3 rq) [oI z5 25 [vN vs,(vI 0),(.slice ob s oc),(.slice fb s fc)],oI z2 25 [(vI 0),(vI 0),nS,nS],oI z1 122 [r0.a,r0.b]]) ?_
 refine oE (φ:=nums rq=W.next) e1 ?_
 refine cu (O':=[dI 56 4 3 W z9,oI z5 25 (dC W z9),oI z2 25 [(vI 0),(vI 0),nS,nS],oI z1 122 [r0.a,r0.b]]) (by subst Pm;exact Sub.rf) ?_
 refine aH (ah F (ad (cN 1 cy F aX F F F) (aj F (aI xO (aE fun w1 hI=>(haveI:=dp hI;AI w1 W z9 (hI.at (k:=z9) (mG 0 F)) yQ.valid (by have:=yQ.valid.n4;omega) (M:=M) hM)) F ?_))))
 rintro vr O' ⟨N,rfl,k9,rfl,rfl⟩
 refine ad (bm (vs:=_) F F) (ad (bm (vs:=_) F F) ?_)
 have tC:=fun(w1:World) (hI:Inv w [dI 56 4 3 M k9,dI 56 4 3 W z9,oI z5 25 (dC W z9),oI z2 25 [(vI 0),(vI 0),nS,nS],oI z1 122 [r0.a,r0.b]] w1)=>(haveI:=dp hI;rZ w1 cb eb en ec vs B (hI.sl eu) M k9 0)
 refine dP F (fA yS (dq.pure tC) F (fun z _=>⟨F,fun _=>z ⟨F,by have:=Ef.len;omega⟩⟩) ?_)
 clear tC
 rintro vr O' ⟨N,rfl,rfl,rfl,_,FL⟩
 refine aj F (bj (vs:=(dC M k9)) 3 aX F F F F ?_)
 refine ae (az (ao ?_))
 refine bf (i:=3) Tryz.results74 cy F aX F F F ?_
 exact⟨[dI 56 4 3 M k9],(by exact Sub.k .z),M,k9,F,F,⟨Ef.toHasL.le FL,Ef.min⟩,vX hF (B4▸hE) J_⟩
end Go.Proofs.YtgdbfideeeegmaaGreatDoor

namespace Go.Proofs.YtgdbfideeeegmaaGreatDoor
open Go.Lx Go.RowKit _root_.Go.Proofs.Tryz
theorem IR (w:World) [cG Tryz.prog w] (y:dE):
  bs Tryz.prog 71 [y.ag] w fun v N=>v=.bool (mA y)∧N=[]:=by
 refine av func71 F ntmps71 F ?_
 refine ai (aj F (cL (cs:=y.cl) F F (fun z1=>?_)))
 refine TO.qa F (ae (ai (ad (aJ bK F cP F F) (ad (aO 0 eC F F F F) (ad (bo F F) ?_)))))
 by_cases h9:((y.op:Nat):Int)=9
 ·refine ad (ar (aF F) (decide_eq_true h9)) ?_
  refine ay F F (ay F F (ay F F (ad (bt F F) (TO.qa F (ae (az (ao ?_)))))))
  refine aG (.bool true) Tryz.results71 F ?_
  exact⟨[],Sub.z,congrArg Value.bool (by unfold mA;rw[decide_eq_true (show y.op=9 by omega),Bool.true_or]),F⟩
 refine ad (ar (aF F) (decide_eq_false h9)) (ap F F (aJ bK F cP F F) (ap F F (aO 0 eC F F F F) (ap F F (bo F F) (ad (aZ F F) (TO.qa F (ae (az (ao ?_))))))))
 refine aG (.bool (decide (((y.op:Nat):Int)=10))) Tryz.results71 F ?_
 exact⟨[],Sub.z,congrArg Value.bool (by unfold mA;rw[decide_eq_false (show¬y.op=9 by omega),Bool.false_or];exact decide_eq_decide.2 (by omega)),F⟩
def IS (ls:List Lf) (w:World) (k:Key) (r:SR):Prop:= ∃(s:St) (l:List CR) (bb cb:Option Addr) (bc cc:Nat),jL ls s∧k=s.key∧s.cf=l.map CR.cf∧r.a=.slice bb s.bh.length bc∧r.b=.slice cb l.length cc∧
 ((∃(c1 c2:Nat) (p:List OB),r.iH=[ak bb c1 3 1 (aQ s.bh),ak cb c2 169 3 (cz l)]++eR 173 p∧ ∀y∈l,kG p y.r)∨(r.iH=[]∧Sl w bb (aQ s.bh)∧Sl w cb (cz l)∧ ∀y∈l,Sl w y.r.b (ei y.r.o)))
theorem IS.one {ls:List Lf} {w:World} {k:Key} {r:SR} (h:IS ls w k r):dD r.a=true∧dD r.b=true:=by
 obtain⟨s,l,bb,cb,bc,cc,_,_,_,h1,h2,_⟩:=h
 rw[h1,h2];exact⟨F,F⟩
theorem IS.sl {ls:List Lf} {w w1:World} {iH:List Lx.Item} {bb cb:Option Addr} {bh:List Nat} {l:List CR} (hI:Inv w [] w1) (h:(∃(c1 c2:Nat) (p:List OB),iH=[ak bb c1 3 1 (aQ bh),ak cb c2 169 3 (cz l)]++eR 173 p∧ ∀y∈l,kG p y.r)∨(iH=[]∧Sl w bb (aQ bh)∧Sl w cb (cz l)∧ ∀y∈l,Sl w y.r.b (ei y.r.o))) (di: ∀it∈iH,it.P w1):Sl w1 bb (aQ bh)∧Sl w1 cb (cz l)∧ ∀y∈l,Sl w1 y.r.b (ei y.r.o):=by
 rcases h with⟨c1,c2,p,he,hp⟩|⟨_,h1,h2,h3⟩
 ·refine⟨rowP.sl (di (ak bb c1 3 1 (aQ bh)) (by rw[he];simp)),rowP.sl (di (ak cb c2 169 3 (cz l)) (by rw[he];simp)),fun y hy=>?_⟩
  rcases hp y hy with h|h
  ·exact rowP.sl (di (OB.lZ 173 y.r) (by rw[he];exact List.mem_append_right _ (List.mem_map.2 ⟨_,h,F⟩)))
  ·rw[h];exact fun i hi=>absurd hi (by simp[ei])
 ·exact⟨hI.sl h1,hI.sl h2,fun y hy=>hI.sl (h3 y hy)⟩
set_option maxRecDepth 20000 in
theorem Uh (w:World) [cG Tryz.prog w] (ob:Nat) (lb:Option Addr) (lc:Nat) (cv fv:Value) (ls:List Lf) (ks:List LK) (ho:jK w ob lb lc cv fv ls ks) (vs:Nat) (hG:gU ls vs) {K:Nat} (hK:p7 ls K) (wa:K<137438953472) (gm:vs≤6) (w1:World) [cG Tryz.prog w1] (hI:Inv w [] w1) (k:Key) (r:SR) (hR:IS ls w k r) (di: ∀it∈r.iH,it.P w1):dW Tryz.prog w1 (.func (.func 76) #[(du (aD ob) 0)] #[]) [.agg #[r.a,r.b]] [] (fun v O'=>v=str k∧O'=[]):=by
 obtain⟨s,l,bb,cb,bc,cc,hs,rfl,Gu,e1,e2,hm⟩:=hR
 obtain⟨hb,hl,Cb⟩:=IS.sl (ls:=ls) hI hm di
 have hg: ∀y∈l,im ls y.cf:=fun y hy=>hs.cf _ (by rw[Gu];exact List.mem_map_of_mem hy)
 have yU:l.length≤K:=by
  have:=hK s.cf hs.nd hs.cf;rw[Gu,List.length_map]at this;exact this
 rw[e1,e2]
 refine(b_ (first:=[(du (aD ob) 0)]) (args:=[(.agg #[.slice bb s.bh.length bc,.slice cb l.length cc])]) (fK:=[]) Ui (Ub w1 (du (aD ob) 0) bb bc s.bh hb (by have:=hs.bh.len;have:=hG.len;omega) (hs.bh.num hG) cb cc l hl (by omega) hG hg (fun y hy=>by
  have:=hG.len
  rcases hg y hy with⟨_,_,h⟩|⟨q,_,hq,_,h⟩
  ·have:=h.len;show y.cf.o.length≤12;omega
  ·have:=h.len;show y.cf.o.length≤12;omega) Cb)).mono ?_
 rintro v O' ⟨rfl,rfl⟩
 rw[←Gu];exact⟨F,F⟩
set_option maxRecDepth 20000 in
theorem Uj (w:World) [cG Tryz.prog w] (ob:Nat) (lb:Option Addr) (lc:Nat) (cv fv:Value) (ls:List Lf) (ks:List LK) (ho:jK w ob lb lc cv fv ls ks) (vs:Nat) (hG:gU ls vs) {K:Nat} (hK:p7 ls K) (wa:K<137438953472) (gm:vs≤6) (w1:World) [cG Tryz.prog w1] (hI:Inv w [] w1) (k:Key) (r:SR) (hR:IS ls w k r) (di: ∀it∈r.iH,it.P w1):dW Tryz.prog w1 (.func (.func 78) #[(du (aD ob) 0)] #[]) [.agg #[r.a,r.b]] [] (fun v O'=>v=.bool (FM (jL ls) St.key qL k)∧O'=[]):=by
 obtain⟨s,l,bb,cb,bc,cc,hs,rfl,Gu,e1,e2,hm⟩:=hR
 obtain⟨hb,hl,Cb⟩:=IS.sl (ls:=ls) hI hm di
 have hg: ∀y∈l,im ls y.cf:=fun y hy=>hs.cf _ (by rw[Gu];exact List.mem_map_of_mem hy)
 have yU:l.length≤K:=by
  have:=hK s.cf hs.nd hs.cf;rw[Gu,List.length_map]at this;exact this
 rw[e1,e2]
 rw[yW (Et hG) hs]
 refine(b_ (first:=[(du (aD ob) 0)]) (args:=[(.agg #[.slice bb s.bh.length bc,.slice cb l.length cc])]) (fK:=[]) Uk (LM w1 (du (aD ob) 0) s.bh (.slice bb s.bh.length bc) cb cc l hl (by omega))).mono ?_
 rintro v O' ⟨rfl,rfl⟩
 rw[←Gu];exact⟨F,F⟩
set_option maxRecDepth 20000 in
theorem Ul (w:World) [cG Tryz.prog w] (ob:Nat) (lb:Option Addr) (lc:Nat) (cv fv:Value) (ls:List Lf) (ks:List LK) (ho:jK w ob lb lc cv fv ls ks) (vs:Nat) (hG:gU ls vs) {K:Nat} (hK:p7 ls K) (wa:K<137438953472) (gm:vs≤6) (w1:World) [cG Tryz.prog w1] (hI:Inv w [] w1) (k:Key) (r:SR) (hR:IS ls w k r) (di: ∀it∈r.iH,it.P w1) (x:Nat) (hx:x<2^vs):dW Tryz.prog w1 (.func (.func 77) #[(du (aD ob) 0)] #[]) [.agg #[r.a,r.b],.int .u8 (x:Int)] [] (fun v N=> ∃r',v=.agg #[r'.a,r'.b]∧N=r'.iH∧IS ls w (zI (jL ls) St.key (lL ls) k x) r'):=by
 obtain⟨s,l,bb,cb,bc,cc,hs,rfl,Gu,e1,e2,hm⟩:=hR
 obtain⟨hb,hl,Cb⟩:=IS.sl (ls:=ls) hI hm di
 have hg: ∀y∈l,im ls y.cf:=fun y hy=>hs.cf _ (by rw[Gu];exact List.mem_map_of_mem hy)
 have yU:l.length≤K:=by
  have:=hK s.cf hs.nd hs.cf;rw[Gu,List.length_map]at this;exact this
 rw[e1,e2]
 refine(b_ (first:=[(du (aD ob) 0)]) (args:=[(.agg #[.slice bb s.bh.length bc,.slice cb l.length cc]),.int .u8 (x:Int)]) (fK:=[]) Um (P9 w1 ob lb lc cv fv ls ks (hI.out ho) vs hG hK (by omega) x hx gm s.bh bb bc hb hs.bh l cb cc hl hg (by rw[←Gu];exact hs.nd) Cb)).mono ?_
 rintro v O' ⟨b1,b2,b3,c1,c2,l2,p,rfl,rfl,h1,h2⟩
 refine⟨⟨.slice b1 (kY ls s.bh x).length b2,.slice c1 l2.length c2,_⟩,F,F,lL ls s x,l2,b1,c1,b2,c2,pN hG hs hx,sT (Et hG) hs hx,?_,F,F,.inl ⟨_,_,p,F,h2.IC⟩⟩
 rw[h1,←Gu];rfl
theorem FV (w:World) [cG Tryz.prog w] (cb:Nat) (eb:Option Addr) (en ec vs B:Nat) (eu:Sl w (aD cb) [.slice eb en ec,vI (vs:Int),vI (B:Int)]) (gm:vs≤6) (iP:1≤B) (hB:B≤4096) (e:List dE) (hE:Sl w eb (aT e)) (kT:en=e.length) (Kn:0<e.length) (Kg:e.length≤64) (t:Rx) (Gv:B_ e t (e.length-1)) (Ek:VC cb eb en ec vs B e) (OQ:e.any mA=false) (Cb:t.plain=true):
  dq Tryz.prog w (.iface 163 (.agg #[])) 46 [(du (aD cb) 0)] [] (fun v N=> ∃M k',v=dV M k'∧N=[dI 56 4 3 M k']∧fm (vs:Int) B M (jz t)∧mx vs t B) (¬mx vs t B):=by
 refine dA func46 F ntmps46 F ?_
 subst kT
 refine ai (aj F (aR aX F (fun z1=>?_)))
 refine ae (ai (ah F (ad (aP F) (ad (bG kR F eT F F (aB eu) (by first|omega|(simp;done)|(simp;omega)|(simp_all;done)|(simp_all;omega))) (ad (bS cp F F (aB eu) F) (ad (bL cp F) (ad (a8 (eQ F F (by omega)) (v':=vN (e.length-1)) (congrArg (Value.int .i64) (by omega))) (TO.qa F (ae (ax (ai (ah F (ad (aP F) (ad (bG kR F eT F F (aB eu) (by first|omega|(simp;done)|(simp;omega)|(simp_all;done)|(simp_all;omega))) (ad (bS cp F F (aB eu) F) ?_)))))))))))))))
 have oS:=fun(w1:World) (hI:Inv w [oI z1 25 [(vI 0),(vI 0),nS,nS]] w1)=>(haveI:=dp hI;(show bs _ _ _ _ (fun v N=>v=Value.bool false∧N=[])from by
   have h9:=n5 w1 eb ec e (hI.sl hE) (by omega) ((.func (.func 71) #[] #[])) mA (fun y hy=>b_ (first:=[]) (args:=[y.ag]) (fK:=[]) NF (IR w1 y))
   rw[OQ]at h9
   exact h9))
 refine aj F (aI NG (aE oS) F ?_)
 clear oS
 rintro vr O' ⟨N,rfl,rfl,rfl⟩
 refine ad (f_ F) (ae ?_)
 refine bg F ?_
 refine ai (ah F (ah F ?_))
 have Un:=fun(w1:World) (hI:Inv w [oI z1 25 [(vI 0),(vI 0),nS,nS]] w1)=>(haveI:=dp hI;iD Ek gm iP hB F t Cb (e.length-1) Gv w1 (hI.sl eu) (hI.sl hE))
 refine dP F (fA xZ (dq.pure Un) F (fun z _=>⟨F,z⟩) ?_)
 clear Un
 rintro vr O' ⟨N,rfl,M,kr,rfl,rfl,hM,hO⟩
 refine aj F (bj (vs:=(dC M kr)) 1 aX F F F F ?_)
 refine ae (az (ao ?_))
 refine bf (i:=1) Tryz.results46 cy F aX F F F ?_
 exact⟨[dI 56 4 3 M kr],(by exact Sub.k .z),M,kr,F,F,hM,hO⟩
theorem IT (w:World) [cG Tryz.prog w] (cb:Nat) (eb:Option Addr) (en ec vs B:Nat) (eu:Sl w (aD cb) [.slice eb en ec,vI (vs:Int),vI (B:Int)]) (gm:vs≤6) (iP:1≤B) (hB:B≤4096) (e:List dE) (hE:Sl w eb (aT e)) (kT:en=e.length) (Kn:0<e.length) (Kg:e.length≤64) (t:Rx) (Gv:B_ e t (e.length-1)) (zh:VK cb eb en ec vs B e) (OQ:e.any mA=true) (hw:t.wf=true) (Uo:t.lv≤12) {K:Nat} (Up:K<137438953472) (hG0:okB vs t B→gU (mO vs t) vs) (wa:okB vs t B→p7 (mO vs t) K):
  dq Tryz.prog w (.iface 163 (.agg #[])) 46 [(du (aD cb) 0)] [] (fun v N=> ∃M k',v=dV M k'∧N=[dI 56 4 3 M k']∧fm (vs:Int) B M (Vx vs t)∧Xo vs t B) (¬Xo vs t B):=by
 refine dA func46 F ntmps46 F ?_
 subst kT
 have Kf:t.lv≤12:=Uo
 have wL:=fN vs t []
 have MV:=eI vs t []
 simp only[List.length_nil,Nat.zero_add]at wL MV
 have Uq:(2:Nat)^vs≤64:=Nat.pow_le_pow_right (by decide) gm
 refine ai (aj F (aR aX F (fun z1=>?_)))
 refine ae (ai (ah F (ad (aP F) (ad (bG kR F eT F F (aB eu) (by first|omega|(simp;done)|(simp;omega)|(simp_all;done)|(simp_all;omega))) (ad (bS cp F F (aB eu) F) (ad (bL cp F) (ad (a8 (eQ F F (by omega)) (v':=vN (e.length-1)) (congrArg (Value.int .i64) (by omega))) (TO.qa F (ae (ax (ai (ah F (ad (aP F) (ad (bG kR F eT F F (aB eu) (by first|omega|(simp;done)|(simp;omega)|(simp_all;done)|(simp_all;omega))) (ad (bS cp F F (aB eu) F) ?_)))))))))))))))
 let dS:Lx.Item:=oI z1 25 [(vI 0),(vI 0),nS,nS]
 have oS:=fun(w1:World) (hI:Inv w [dS] w1)=>(haveI:=dp hI;(show bs _ _ _ _ (fun v N=>v=Value.bool true∧N=[])from by
   have h9:=n5 w1 eb ec e (hI.sl hE) (by omega) ((.func (.func 71) #[] #[])) mA (fun y hy=>b_ (first:=[]) (args:=[y.ag]) (fK:=[]) NF (IR w1 y))
   rw[OQ]at h9
   exact h9))
 refine aj F (aI NG (aE oS) F ?_)
 clear oS
 rintro vr O' ⟨N,rfl,rfl,rfl⟩
 refine ad (f_ F) (ae (aL F (aq (ai (ah F (ad (bE (cs:=[(du (aD cb) 0),nS,nS]) LO Qi (by kernel_rfl)) (aj F (cL (cs:=[(du (aD cb) 0),nS,nS]) F F (fun z2=>?_)))))))))
 refine TO.qa F (ae (ax (T.dt 118 7 ?_)))
 let gn:List Lx.Item:=[oI z2 114 [(du (aD cb) 0),nS,nS],ak none 0 118 7 (cI [] []),dS]
 refine cu (O':=gn++(bl 3 (ek [] [])++gr 56 4 3 [] [])) (au [1,0,0] F) ?_
 refine aH (ah F (ah F ?_))
 have na:=((wk zh gm iP hB F z2 nS t hw (e.length-1) Gv w eu hE).frame [dS] (O:=gn) none 0 [] [] F (by simp;omega) ⟨0,by simp,by have:=Nat.mul_le_mul Kf Kf;omega⟩ (by exact Sub.rf))
 refine dP F (fA IN na F (fun z _=>⟨F,fun h9=>z h9.1⟩) ?_)
 clear na
 rintro vr O' ⟨lb,lc,ks,fb,fc,xb,xc,rfl,rfl,nq,PJ⟩
 let gz:Value:=(.slice fb ((aK vs t []).fi.length) fc)
 refine ah F (ad (bm (vs:=_) F F) (ad (bm (vs:=_) F F) (TO.qa F (TO.qa F (ae (ai (ah F (ah F (ad (aP F) (ad (aJ gy F bP F F) (aj F (bj (vs:=[gz]) 0 bP F F F F ?_))))))))))))
 refine ae (ax (ai (ah F (ad (bL bT F) (ah F (ae (aC ?_)))))))
 let um:Lx.Item:=ak fb fc 3 1 (aQ ((aK vs t []).fi))
 let xP:Lx.Item:=ak xb xc 3 1 (aQ ((aK vs t []).la))
 refine cu (O':=[oI z2 114 [(du (aD cb) 0),(.slice lb (((aK vs t []).ls).length) lc),gz],ak lb lc 118 7 (cI ((aK vs t []).ls) ks),um,xP,dS]++(bl 3 (ek ((aK vs t []).ls) ks)++gr 56 4 3 ((aK vs t []).ls) ks)) (by exact Sub.rf) ?_
 let gN:Value:=(.pointer (aD z2))
 refine cE (fun(i9:Nat) ρ O=> ∃(l3:List Lf),O=([oI z2 114 [(du (aD cb) 0),(.slice lb l3.length lc),gz],ak lb lc 118 7 (cI l3 ks),um,xP,dS]++(bl 3 (ek l3 ks)++gr 56 4 3 l3 ks))∧i9≤(aK vs t []).la.length∧l3=qi (aK vs t []).ls ((aK vs t []).la.take i9)∧ks.length=l3.length∧bZ [(0,(du (aD cb) 0)),(2,(.pointer (aD z1))),(3,vN (e.length-1)),(4,gN),(5,gz),(6,(.slice xb ((aK vs t []).la.length) xc)),(26,gN),(37,(.slice xb ((aK vs t []).la.length) xc)),(38,vI ((aK vs t []).la.length:Int)),(39,vN i9)] ρ) (fun i9=>(aK vs t []).la.length-i9) 0 ?_ ?_
 ·exact⟨(aK vs t []).ls,F,Nat.zero_le _,F,nq,(.of F)⟩
 rintro i9 ρ O ⟨l3,rfl,Kp,Ke,rX,hH⟩
 obtain⟨eP,rfl⟩:=hH.elim
 clear hH
 refine ai (ad (bI F F) (ae (ax (aw F (fun hc=>?_) (fun hc=>?_)))))
 ·have tH:i9<(aK vs t []).la.length:=by omega
  obtain⟨kk,De⟩: ∃k,k=(aK vs t []).la[i9]:=⟨_,F⟩
  have x7:kk<l3.length:=by
   have:=(wL.2.1 _ (List.getElem_mem tH)).2
   rw[Ke,sZ,MV,De];exact this
  refine aq (ax (aC (ai (ad (cq (i:=i9) bT aM F F (cw (mG 3 F)) tH (by rw[List.length_map];exact tH)) (ad (bS dh F F (cw (mG 3 F)) (show(aQ (aK vs t []).la)[i9]? =some (vN kk) by rw[De];exact eK tH)) (TO.qa F (ae (aH (ah F (ad (aP F) (ad (aJ gy F gj F F) (ad (aO 0 eF F F F F) (ah F (ad (db (i:=kk) eF dZ F F (cw (mG 1 F)) x7 (by rw[cX rX];omega)) (ad (bG gq F dc F F (cw (mG 1 F)) (by rw[cX rX];omega)) (aj F (jW (j:=(kk*7+6)) (v:=.bool true) (vs:=[(.bool true)]) (cs:=cI l3 ks) 1 dc F F F F F (by simp) F (by rw[cX rX];simp;omega) ?_)))))))))))))))))
  let kn:Value:=(.slice fb ((aK vs t []).fi.length) fc)
  let wP:Lx.Item:=ak fb fc 3 1 (aQ ((aK vs t []).fi))
  let oP:Lx.Item:=ak xb xc 3 1 (aQ ((aK vs t []).la))
  refine bM (O':=([oI z2 114 [(du (aD cb) 0),(.slice lb l3.length lc),kn],ak lb lc 118 7 (cI (l3.set kk {lf l3 kk with la:=true}) ks),wP,oP,dS]++(bl 3 (ek l3 ks)++gr 56 4 3 l3 ks))) (by rw[show dl (cI l3 ks) (kk*7+6) [(.bool true)]=cI (l3.set kk {lf l3 kk with la:=true}) ks from(by rw[Bt rX x7];simp[dl])];exact a_ (List.Sublist.refl _)) ?_
  refine ae (aH (ad (cj (a:=i9) (b:=1) F F (by omega)) (ah F (ae ?_))))
  exact⟨i9+1,by omega,[oI z2 114 [(du (aD cb) 0),(.slice lb ((l3.set kk {lf l3 kk with la:=true}).length) lc),kn],ak lb lc 118 7 (cI (l3.set kk {lf l3 kk with la:=true}) ks),wP,oP,dS]++(bl 3 (ek (l3.set kk {lf l3 kk with la:=true}) ks)++gr 56 4 3 (l3.set kk {lf l3 kk with la:=true}) ks),by
   rw[Di rX x7,FW rX x7,List.length_set]
   exact Sub.rf,(l3.set kk {lf l3 kk with la:=true}),F,by omega,by rw[Dj tH,←De,←Ke],by rw[List.length_set];exact rX,(.of F)⟩
 have Ip: ¬i9<(aK vs t []).la.length:=by omega
 refine bn ?_
 refine ax ?_
 have e3:l3=mO vs t:=by rw[Ke,List.take_of_length_le (by omega)];rfl
 have hG:=hG0 PJ
 have hK:=wa PJ
 rw[←e3]at hG hK
 have qp:(aK vs t []).fi.length≤1000000:=by have:=wL.2.2.1;omega
 have Ur: ∀k∈(aK vs t []).fi,k<l3.length:=fun k hk=>by rw[e3];exact Eu k hk
 refine aH (ah F (ah F ?_))
 let kO:Value:=(.slice fb ((aK vs t []).fi.length) fc)
 let kP:Lx.Item:=oI z2 114 [(du (aD cb) 0),(.slice lb l3.length lc),kO]
 let pZ:Lx.Item:=ak fb fc 3 1 (aQ ((aK vs t []).fi))
 let qH:Lx.Item:=ak xb xc 3 1 (aQ ((aK vs t []).la))
 have A2:=fun(w1:World) (hI:Inv w ([kP,ak lb lc 118 7 (cI l3 ks),pZ,qH,dS]++(bl 3 (ek l3 ks)++gr 56 4 3 l3 ks)) w1)=>(haveI:=dp hI;LJ w1 z2 lb lc (du (aD cb) 0) (.slice fb ((aK vs t []).fi.length) fc) l3 ks (jK.of (II:=56) (Bo:=4) (I:=3) hI rX (mG 0 F) (mG 1 F) (fun it h=>List.mem_append_right _ (List.mem_append_left _ h)) (fun it h=>List.mem_append_right _ (List.mem_append_right _ h))) vs hG hK (by omega) (aK vs t []).fi fb fc F (hI.eV (mG 2 F)) Ur qp)
 refine aj F (aI Us (aE A2) F ?_)
 clear A2
 rintro vr O' ⟨N,rfl,bb,bc,kK,gb,gc,l,p,rfl,rfl,Ut,hS⟩
 refine bM (O':=([ak bb kK 3 1 (aQ (l3.map fun l=>l.d.start.toNat)),ak gb gc 169 3 (cz l),kP,ak lb lc 118 7 (cI l3 ks),pZ,qH,dS]++((eR 173 p)++(bl 3 (ek l3 ks)++gr 56 4 3 l3 ks)))) (by exact cQ [ak bb kK 3 1 (aQ (l3.map fun l=>l.d.start.toNat)),ak gb gc 169 3 (cz l)] _ (eR 173 p) (bl 3 (ek l3 ks)++gr 56 4 3 l3 ks)) ?_
 refine ah F (ad (dX) (ah F (ad (dX) (ah F (ad (dX) ?_)))))
 have HC:=fun(w1:World) (hI:Inv w ([ak bb kK 3 1 (aQ (l3.map fun l=>l.d.start.toNat)),ak gb gc 169 3 (cz l),oI z2 114 [(du (aD cb) 0),(.slice lb l3.length lc),kO],ak lb lc 118 7 (cI l3 ks),ak fb fc 3 1 (aQ ((aK vs t []).fi)),ak xb xc 3 1 (aQ ((aK vs t []).la)),dS]++((eR 173 p)++(bl 3 (ek l3 ks)++gr 56 4 3 l3 ks))) w1)=>(haveI:=dp hI;CV w1 cb eb _ ec vs B (2^vs) (hI.sl eu) gm F iP hB (zI (jL l3) St.key (lL l3)) (FM (jL l3) St.key qL) (j4 l3 (aK vs t []).fi).key (IS l3 w1) ⟨.slice bb (l3.map fun l=>l.d.start.toNat).length bc,.slice gb l.length gc,[]⟩ (.func (.func 76) #[gN] #[]) (.func (.func 77) #[gN] #[]) (.func (.func 78) #[gN] #[]) ⟨(j4 l3 (aK vs t []).fi),l,bb,gb,bc,gc,wl hG Ur,F,(by rw[Ut];rfl),F,F,.inr ⟨F,hI.eV (mG 0 F),hI.eV (mG 1 F),fun y hy=>kG.sl (T:=173) hI (fun it h=>List.mem_append_right _ (List.mem_append_left _ h)) (hS.IC y hy)⟩⟩ F (fun k r h=>h.one) (fun w2 k r nX hR di=>haveI:=dp nX;Uh w1 z2 lb lc (du (aD cb) 0) kO l3 ks (jK.of (II:=56) (Bo:=4) (I:=3) hI rX (mG 2 F) (mG 3 F) (fun it h=>List.mem_append_right _ (List.mem_append_right _ (List.mem_append_left _ h))) (fun it h=>List.mem_append_right _ (List.mem_append_right _ (List.mem_append_right _ h)))) vs hG hK Up gm w2 nX k r hR di) (fun w2 k r x nX hR di hx=>haveI:=dp nX;Ul w1 z2 lb lc (du (aD cb) 0) kO l3 ks (jK.of (II:=56) (Bo:=4) (I:=3) hI rX (mG 2 F) (mG 3 F) (fun it h=>List.mem_append_right _ (List.mem_append_right _ (List.mem_append_left _ h))) (fun it h=>List.mem_append_right _ (List.mem_append_right _ (List.mem_append_right _ h)))) vs hG hK Up gm w2 nX k r hR di x hx) (fun w2 k r nX hR di=>haveI:=dp nX;Uj w1 z2 lb lc (du (aD cb) 0) kO l3 ks (jK.of (II:=56) (Bo:=4) (I:=3) hI rX (mG 2 F) (mG 3 F) (fun it h=>List.mem_append_right _ (List.mem_append_right _ (List.mem_append_left _ h))) (fun it h=>List.mem_append_right _ (List.mem_append_right _ (List.mem_append_right _ h)))) vs hG hK Up gm w2 nX k r hR di))
 refine dP F (fA Uu (dq.pure HC) F (fun z _=>⟨F,fun h9=>z (by have:=h9.2;unfold OX at this;rw[←e3]at this;exact this)⟩) ?_)
 clear HC
 rintro vr O' ⟨N,rfl,M,k9,rfl,rfl,hM,Ie⟩
 refine aj F (bj (vs:=(dC M k9)) 7 aX F F F F ?_)
 refine ae (az (ao ?_))
 refine bf (i:=7) Tryz.results46 cy F aX F F F ?_
 subst e3
 exact⟨[dI 56 4 3 M k9],(by exact Sub.k .z),M,k9,F,F,hM.to fun u hu=>IU hG (fun x hx=>by simpa using hu x hx),PJ,Ie⟩
end Go.Proofs.YtgdbfideeeegmaaGreatDoor

namespace Go.Proofs.YtgdbfideeeegmaaGreatDoor
open Go.Lx Go.RowKit _root_.Go.Proofs.Tryz
theorem LR (w:World) [cG Tryz.prog w] (eb:Option Addr) (ec:Nat) (e:List dE) (hE:Sl w eb (aT e)) (Kg:e.length≤64) (qK: ∀x∈e,x.p<256∧x.n<256) (v:Nat) (hv:v≤6):
  bs Tryz.prog 89 [.slice eb e.length ec,vN v] w fun r N=> ∃(b:Option Addr) (c er:Nat) (fs:List Nat),r=.tuple #[.slice b fs.length c,vI (er:Int)]∧N=[ak b c 3 1 (aQ fs)]∧((iV v e=.error er∧er≠0)∨(iV v e=.ok fs∧er=0∧fs.length=e.length)):=by
 refine(fX 3 1 (LP w eb ec e hE Kg qK v hv)).post ?_
 rintro r O' ⟨O2,rfl,⟨n,h1,rfl,rfl⟩|⟨fs,b,c,h1,rfl,rfl⟩⟩
 ·exact⟨_,Sub.rf,none,0,n,[],F,F,.inl ⟨h1,zi h1⟩⟩
 ·obtain⟨gs,h2,h3,_,_⟩:=nH h1 e.length (Nat.le_refl _)
  rw[List.take_length]at h2
  rw[h2]at h1
  injection h1 with h1
  subst h1
  exact⟨_,au [1] F,b,c,0,gs,by rw[h3];rfl,F,.inr ⟨h2,F,h3⟩⟩
theorem Qm (w:World) [cG Tryz.prog w] (eb:Option Addr) (ec:Nat) (e:List dE) (hE:Sl w eb (aT e)) (Kg:e.length<4611686018427387904) (qK: ∀x∈e,x.p<256∧x.n<256) (vars:Int):
  bs Tryz.prog 54 [.slice eb e.length ec,vI vars] w fun r N=> ∃b n c,r=.tuple #[.slice b n c,vI (jw vars e:Int)]∧N=[]:=by
 refine av func54 F ntmps54 F ?_
 let gz:Value:=(.slice eb e.length ec)
 refine ai (aj F (cL (cs:=[gz]) F F (fun z1=>?_)))
 refine TO.qa F (TO.qa F (ae (ax (aC (ai (ah F (ad (bI F F) ?_)))))))
 by_cases Ko:vars<0
 ·refine ad (ar (aF F) (decide_eq_true Ko)) ?_
  refine ay F F (ay F F (ad (bt F F) (TO.qa F (ae ?_))))
  refine bg F ?_
  refine ai (TO.qa F (TO.qa F (ae (az (ao ?_)))))
  refine ct nS (vI 7) Tryz.results54 F F ?_
  have e9:jw vars e=7:=by unfold jw;rw[if_pos (by omega)]
  exact⟨[],Sub.z,none,0,0,(by first|(rw[e9];done)|(rw[e9];rfl)),F⟩
 refine ad (ar (aF F) (decide_eq_false Ko)) (ap F F (aF F) (ap F F (fw F F) (ad (aZ F F) (TO.qa F (ae (aw F (fun hc=>?_) (fun hc=>?_)))))))
 ·have Qn:vars<0∨6<vars:=by omega
  refine ai (TO.qa F (TO.qa F (ae (az (ao ?_)))))
  refine ct nS (vI 7) Tryz.results54 F F ?_
  have e9:jw vars e=7:=by unfold jw;rw[if_pos (by omega)]
  exact⟨[],Sub.z,none,0,0,(by first|(rw[e9];done)|(rw[e9];rfl)),F⟩
 have Qn: ¬(vars<0∨6<vars):=by omega
 obtain⟨v,hvv⟩: ∃v:Nat,vars=(v:Int):=⟨vars.toNat,by omega⟩
 have N1:v≤6:=by omega
 have VN:vars.toNat=v:=by omega
 refine ai (ad (aO 0 cp F F F F) (ad (bL cp F) (ad (bo F F) (TO.qa F (ae (aw F (fun hc=>?_) (fun hc=>?_)))))))
 ·have uS:e.length=0:=by omega
  have DG:e.length=0:=by omega
  refine ai (TO.qa F (TO.qa F (ae (az (ao ?_)))))
  refine ct nS (vI 3) Tryz.results54 F F ?_
  have e9:jw vars e=3:=by unfold jw;rw[if_neg Qn,if_pos DG]
  exact⟨[],Sub.z,none,0,0,(by first|(rw[e9];done)|(rw[e9];rfl)),F⟩
 have xj: ¬e.length=0:=by omega
 have DG: ¬e.length=0:=by omega
 refine ai (ad (aO 0 cp F F F F) (ad (bL cp F) (ad (fw F F) (TO.qa F (ae (aw F (fun hc=>?_) (fun hc=>?_)))))))
 ·have x4:e.length>64:=by omega
  have CH:64<e.length:=by omega
  refine ai (TO.qa F (TO.qa F (ae (az (ao ?_)))))
  refine ct nS (vI 4) Tryz.results54 F F ?_
  have e9:jw vars e=4:=by unfold jw;rw[if_neg Qn,if_neg DG,if_pos CH]
  exact⟨[],Sub.z,none,0,0,(by first|(rw[e9];done)|(rw[e9];rfl)),F⟩
 have T1: ¬e.length>64:=by omega
 have CH: ¬64<e.length:=by omega
 refine aq (ai (ad (aO 0 cp F F F F) (ad (a8 (aF F) (v':=vN v) (by show Value.int .i64 vars=_;rw[hvv])) ?_)))
 have rP:=fun(w1:World) (hI:Inv w [oI z1 32 [gz]] w1)=>(haveI:=dp hI;LR w1 eb ec e (hI.sl hE) (by omega) qK v N1)
 refine aj F (aI Uy (aE rP) F ?_)
 clear rP
 rintro vr O' ⟨N,rfl,b,c,er,fs,rfl,rfl,Kd⟩
 refine ah F (ad (bm (vs:=_) F F) (ad (bm (vs:=_) F F) (TO.qa F (TO.qa F (ae (ax (ai (ah F (ad (cS F F) (ae (aw F (fun hc=>?_) (fun hc=>?_))))))))))))
 ·have vk:er≠0:=by omega
  have Xp:er≠0:=by omega
  have hbe:iV v e=.error er:=Kd.elim (fun h=>h.1) (fun h=>absurd h.2.1 Xp)
  refine ai (ah F (TO.qa F (TO.qa F (ae (az (ao ?_))))))
  refine ct nS (vN er) Tryz.results54 F F ?_
  have e9:jw vars e=er:=by unfold jw;rw[if_neg Qn,if_neg DG,if_neg CH,VN,hbe]
  exact⟨[],Sub.z,none,0,0,(by first|(rw[e9];done)|(rw[e9];rfl)),F⟩
 have Sc: ¬er≠0:=by omega
 have Xp:er=0:=by omega
 obtain⟨VO,_,qp⟩:=Kd.resolve_left (fun h=>h.2 Xp)
 refine aq (ax (ai (ah F (ad (aO 1 cp F F F F) (ad (bL cp F) (ad (a8 (eQ F F (by omega)) (v':=vN (e.length-1)) (congrArg (Value.int .i64) (by omega))) (ad (cq (i:=(e.length-1)) bT aM F F (cw (mG 0 F)) (by omega) (by rw[List.length_map];omega)) (ad (bS dh F F (cw (mG 0 F)) (j5 (show e.length-1<fs.length by omega))) (ad (cS F F) (ae (aw F (fun hc=>?_) (fun hc=>?_))))))))))))
 ·have x5:(fs.getD (e.length-1) 0)≠0:=by omega
  have OS:fs.getD (e.length-1) 0≠0:=by omega
  refine ai (TO.qa F (TO.qa F (ae (az (ao ?_)))))
  refine ct nS (vI 2) Tryz.results54 F F ?_
  have e9:jw vars e=2:=by unfold jw;rw[if_neg Qn,if_neg DG,if_neg CH,VN,VO];show(if _ then _ else _)=_;first|(rw[if_pos OS];done)|(rw[if_neg OS,if_neg Uq];done)
  exact⟨[],Sub.z,none,0,0,(by first|(rw[e9];done)|(rw[e9];rfl)),F⟩
 have T6: ¬(fs.getD (e.length-1) 0)≠0:=by omega
 have OS: ¬fs.getD (e.length-1) 0≠0:=by omega
 refine aq (ai (aj F (aR IY F (fun z2=>?_))))
 let dS:Value:=(.func (.func 90) #[] #[(.pointer (aD z1)),(.pointer (aD z2))])
 refine ae (ai (ad (dX) (aj F (bj (vs:=[dS]) 0 IY F F F F ?_))))
 refine ae (ax (ai (ad (aO 0 IV F F F F) (ad (aO 2 cp F F F F) (ad (bL cp F) (ad (a8 (eQ F F (by omega)) (v':=vN (e.length-1)) (congrArg (Value.int .i64) (by omega))) ?_))))))
 have Uz:=(cF (base:=w) (O:=[oI z2 140 [dS],ak b c 3 1 (aQ fs),oI z1 32 [gz]]) fun w1 hI=>haveI:=dp hI;haveI:=dp hI;b_ (first:=[]) (args:=[vN (e.length-1),.bool true]) (fK:=[(du (aD z1) 0),(du (aD z2) 0)]) IX (Ql w1 eb ec e (hI.sl hE) z1 z2 (hI.iX (mG 2 F)) (hI.iX (mG 0 F)) (oV VO) e.length (e.length-1) (by omega) (by omega) true))
 refine aj F (dQ Uz F F ?_)
 clear Uz
 rintro vr O' ⟨N,rfl,rfl,rfl⟩
 refine ad (f_ F) (ae (T.cond F (fun hc=>?_) (fun hc=>?_)))
 ·have Uq: ¬lH e e.length (e.length-1) true=true:=by simpa using hc
  refine ai (TO.qa F (TO.qa F (ae (az (ao ?_)))))
  refine ct nS (vI 2) Tryz.results54 F F ?_
  have e9:jw vars e=2:=by unfold jw;rw[if_neg Qn,if_neg DG,if_neg CH,VN,VO];show(if _ then _ else _)=_;first|(rw[if_pos OS];done)|(rw[if_neg OS,if_neg Uq];done)
  exact⟨[],Sub.z,none,0,0,(by first|(rw[e9];done)|(rw[e9];rfl)),F⟩
 have Uq:lH e e.length (e.length-1) true=true:=by simpa using hc
 refine aq (ai (ah F (TO.qa F (TO.qa F (ae (az (ao ?_)))))))
 refine ct (.slice b fs.length c) (vI 0) Tryz.results54 F F ?_
 have e9:jw vars e=0:=by unfold jw;rw[if_neg Qn,if_neg DG,if_neg CH,VN,VO];show(if _ then _ else _)=_;rw[if_neg OS,if_pos Uq]
 exact⟨[],Sub.z,b,fs.length,c,(by first|(rw[e9];done)|(rw[e9];rfl)),F⟩
theorem LU (w:World) [cG Tryz.prog w] (eb:Option Addr) (ec:Nat) (e:List dE) (hE:Sl w eb (aT e)) (Kg:e.length<4611686018427387904) (qK: ∀x∈e,x.p<256∧x.n<256) (vars:Int):
  bs Tryz.prog 28 [.slice eb e.length ec,vI vars] w fun r N=>r=vI (jw vars e:Int)∧N=[]:=by
 refine av func28 F ntmps28 F ?_
 refine ai (TO.qa F (ae (ai (ah F (ah F ?_)))))
 have lK:=fun(w1:World) (hI:Inv w [] w1)=>(haveI:=dp hI;Qm w1 eb ec e (hI.sl hE) Kg qK vars)
 refine aj F (aI UA (aE lK) F ?_)
 clear lK
 rintro vr O' ⟨N,rfl,b,n,c,rfl,rfl⟩
 refine ah F (ad (bm (vs:=_) F F) (ad (bm (vs:=_) F F) (TO.qa F (TO.qa F (ae (ai (ah F (TO.qa F (ae (az (ao ?_)))))))))))
 refine aG (vI (jw vars e:Int)) Tryz.results28 F ?_
 exact⟨[],Sub.z,F,F⟩
end Go.Proofs.YtgdbfideeeegmaaGreatDoor

namespace Go.Proofs.YtgdbfideeeegmaaGreatDoor
open Go.Lx Go.RowKit _root_.Go.Proofs.Tryz
theorem CN (e:List dE):((aT e).all dD)=true:=by
 rw[List.all_eq_true]
 intro v hv
 obtain⟨p,_,hv⟩:=List.mem_flatMap.1 hv
 simp only[dE.cells,List.mem_cons,List.not_mem_nil,or_false]at hv
 rcases hv with rfl|rfl|rfl|rfl|rfl<;>rfl
theorem wm (a:Value): ∀(vs l:List Value) (n:Nat),dl (a::l) (n+1) vs=a::dl l n vs
 | [],l,n=>rfl
 |v::vs,l,n=>wm a vs (l.set n v) (n+1)
theorem x9 (vs l:List Value): ∀(A:List Value),dl (A++l) A.length vs=A++dl l 0 vs
 | []=>rfl
 |a::A=>by rw[List.cons_append,List.length_cons,wm,x9 vs l A,List.cons_append]
theorem FX {e:List dE} {k:Nat} (h:k<e.length):dl (aT (List.replicate k (⟨99,0,0,0,0⟩:dE)++e.drop k)) (k*5) [.int .u8 99,.int .u8 0,.int .u8 0,vI 0,vI 0]=aT (List.replicate (k+1) (⟨99,0,0,0,0⟩:dE)++e.drop (k+1)):=by
 have h1:aT (List.replicate k (⟨99,0,0,0,0⟩:dE)++e.drop k)=aT (List.replicate k (⟨99,0,0,0,0⟩:dE))++(e[k].cells++aT (e.drop (k+1))):=by
  rw[List.drop_eq_getElem_cons h];unfold aT;rw[List.flatMap_append,List.flatMap_cons]
 have h2:aT (List.replicate (k+1) (⟨99,0,0,0,0⟩:dE)++e.drop (k+1))=aT (List.replicate k (⟨99,0,0,0,0⟩:dE))++([.int .u8 99,.int .u8 0,.int .u8 0,vI 0,vI 0]++aT (e.drop (k+1))):=by
  rw[List.replicate_succ',List.append_assoc];unfold aT;rw[List.flatMap_append,List.flatMap_append];rfl
 have h3:(aT (List.replicate k (⟨99,0,0,0,0⟩:dE))).length=k*5:=by rw[bF,List.length_replicate]
 rw[h1,h2]
 rw[←h3,x9]
 rfl
theorem UB (base:World) [cG Tryz.prog base] (b:Option Addr) (c:Nat) (e:List dE) (Kg:e.length≤1000000):
  bw Tryz.prog base 17 [.slice b e.length c] [ak b c 72 5 (aT e)] (fun v O'=>v=.tuple #[]∧ ∃e',O'=[ak b c 72 5 (aT e')]):=by
 refine av func17 F ntmps17 F ?_
 refine ai (TO.qa F (ae (aC ?_)))
 refine ck (fun(k:Nat) ρ O=>O=[ak b c 72 5 (aT (List.replicate k (⟨99,0,0,0,0⟩:dE)++e.drop k))]∧k≤e.length∧bZ [(0,(.slice b e.length c)),(2,vN k)] ρ) (fun k=>e.length-k) 0 ?_ ?_
 ·exact⟨by simp,Nat.zero_le _,⟨F,F,trivial⟩⟩
 rintro k ρ O ⟨rfl,hk,hH⟩
 obtain⟨eP,rfl⟩:=hH.elim
 clear hH
 refine ax (ai (ah F (ah F (ad (bL cp F) (ad (bI F F) (ae (aw F (fun hc=>?_) (fun hc=>?_))))))))
 ·have aaO:k<e.length:=by omega
  refine aq (ax (aC (aH (ah F (ah F (ad (bE (cs:=[.int .u8 99,(.int .u8 0),(.int .u8 0),(vI 0),(vI 0)]) iy bQ (by kernel_rfl)) (ad (db (i:=k) cp bQ F F (cw (mG 0 F)) (by omega) (by rw[bF];simp;omega)) (aj F (jW (j:=(k*5)) (v:=(.agg #[.int .u8 99,(.int .u8 0),(.int .u8 0),(vI 0),(vI 0)])) (vs:=[.int .u8 99,(.int .u8 0),(.int .u8 0),(vI 0),(vI 0)]) (cs:=aT (List.replicate k (⟨99,0,0,0,0⟩:dE)++e.drop k)) 0 bQ F F F F F (by simp) F (by rw[bF];simp;omega) ?_)))))))))
  refine bM (O':=[ak b c 72 5 (aT (List.replicate (k+1) (⟨99,0,0,0,0⟩:dE)++e.drop (k+1)))]) (by rw[show dl (aT (List.replicate k (⟨99,0,0,0,0⟩:dE)++e.drop k)) (k*5) [.int .u8 99,(.int .u8 0),(.int .u8 0),(vI 0),(vI 0)]=aT (List.replicate (k+1) (⟨99,0,0,0,0⟩:dE)++e.drop (k+1))from(FX (by omega))];exact a_ (List.Sublist.refl _)) ?_
  refine ae (aH (ah F (ad (cj (a:=k) (b:=1) F F (by omega)) (TO.qa F (ae ?_)))))
  exact⟨k+1,by omega,F,by omega,⟨F,F,trivial⟩⟩
 have aaP: ¬k<e.length:=by omega
 refine bn ?_
 refine qb.zero Tryz.results17 ?_
 have Gs:k=e.length:=by omega
 subst Gs
 exact⟨F,_,F⟩
end Go.Proofs.YtgdbfideeeegmaaGreatDoor

namespace Go.Proofs.YtgdbfideeeegmaaGreatDoor
open Go.Lx Go.RowKit _root_.Go.Proofs.Tryz
deriving instance DecidableEq for dE
theorem pz {P:Program} {d:Nat} {xs ys:Array Value} {f:Field} {fs:List Field} {a b:Value} {r r2:Bool} {w:World} (hn:f.name≠ "_") (he:P.plainKey f.type=true) (ha:xs[f.offset]? =some a) (hb:ys[f.offset]? =some b)
  (hr:(Op.equalIn d f.type a b).run P w=.ok r w) (h2:(Op.eqFields d xs ys fs).run P w=.ok r2 w):(Op.eqFields d xs ys (f::fs)).run P w=.ok (r&&r2) w:=by
 simp only[Op.eqFields,if_pos hn,Sem.run_bind,run_part_plain w he ha,run_part_plain w he hb,hr,Result.andThen_ok,Sem.run_ite]
 cases r<;>simp[h2]
theorem U4 (x y:dE) (w:World):(Op.equalIn 10000 72 (.agg x.cells.toArray) (.agg y.cells.toArray)).run Tryz.prog w=.ok (decide (x=y)) w:=by
 have hf:Tryz.prog.fieldsOf 72= #[⟨"Op",5,0,false, "", "",0⟩,⟨"Pos",5,1,false, "", "",1⟩,⟨"Neg",5,2,false, "", "",2⟩,⟨"A",3,3,false, "", "",8⟩,⟨"B",3,4,false, "", "",16⟩]:=by
  unfold Program.fieldsOf;rw[bK]
 rw[run_equalIn_agg w 9999 72 _ _ (by rw[hf];exact bK) (by kernel_rfl),hf]
 have Zg:Tryz.prog.underlying 5=some (.int .u8):=eC
 have hi:Tryz.prog.underlying 3=some (.int .i64):=dh
 have p5:Tryz.prog.plainKey 5=true:=by unfold Program.plainKey;rw[Zg]
 have p3:Tryz.prog.plainKey 3=true:=by unfold Program.plainKey;rw[hi]
 have e5: ∀(u v:Int) w,(Op.equalIn 9999 5 (.int .u8 u) (.int .u8 v)).run Tryz.prog w=.ok (u==v) w:=fun u v w=>run_equalIn_int w 9998 5 .u8 .u8 u v Zg
 have e3: ∀(u v:Int) w,(Op.equalIn 9999 3 (.int .i64 u) (.int .i64 v)).run Tryz.prog w=.ok (u==v) w:=fun u v w=>run_equalIn_int w 9998 3 .i64 .i64 u v hi
 clear hf
 generalize 9999=q at e5 e3⊢
 obtain⟨o,p,n,a,b⟩:=x
 obtain⟨o2,p2,n2,a2,b2⟩:=y
 refine Eq.trans (pz (by simp) p5 F F (e5 _ _ w) (pz (by simp) p5 F F (e5 _ _ w) (pz (by simp) p5 F F (e5 _ _ w) (pz (by simp) p3 F F (e3 _ _ w) (pz (by simp) p3 F F (e3 _ _ w) F))))) ?_
 refine congrArg (fun r=>Result.ok r w) ?_
 rw[Bool.eq_iff_iff];simp;omega
section
variable {base:World} {ρ:Env} {O:List Lx.Item} {dst:Option Nat} {t:TypeId} {p:String} {af:Array Edge} {g:Option (Nat×Bool)}
theorem Bx {x y:Operand} {u v:dE} {U:TypeId} (hx:ev ρ x=.agg u.cells.toArray) (hy:ev ρ y=.agg v.cells.toArray):
  QT Tryz.prog base ⟨dst,.binOp .neq 72 x y U,t,p,af,g⟩ ρ O (.bool (!decide (u=v))):=fun w _=>by
 have h:=U4 u v w
 have hm:Tryz.prog.eqGuardType Tryz.prog.depth 72=false:=by kernel_rfl
 simp[execOp,hx,hy,run_eqGuard_agg w .neq 72 x y _ _ hm,run_neq_struct,h]
end
end Go.Proofs.YtgdbfideeeegmaaGreatDoor

namespace Go.Proofs.YtgdbfideeeegmaaGreatDoor
open Go.Lx Go.RowKit _root_.Go.Proofs.Tryz
theorem yK (w:World) [cG Tryz.prog w] (xb yb:Option Addr) (xc yc:Nat) (xs ys:List dE) (hX:Sl w xb (aT xs)) (hY:Sl w yb (aT ys)) (hb:xs.length<4611686018427387904):
  bs Tryz.prog 15 [.slice xb xs.length xc,.slice yb ys.length yc] w fun v N=>v=.bool (decide (xs=ys))∧N=[]:=by
 refine av func15 F ntmps15 F ?_
 refine ai (TO.qa F (ae (ax (ai (ah F (ad (bL cp F) (ah F (ad (bL cp F) (ad (cS F F) (ae (aw F (fun hc=>?_) (fun hc=>?_))))))))))))
 ·have jQ:xs.length≠ys.length:=by omega
  have ie:xs.length≠ys.length:=by omega
  refine ai (TO.qa F (ae (az ?_)))
  refine aG (.bool false) Tryz.results15 F ?_
  exact⟨congrArg Value.bool (decide_eq_false (fun e=>ie (by rw[e]))).symm,F⟩
 have tx: ¬xs.length≠ys.length:=by omega
 have ie:xs.length=ys.length:=by omega
 refine aq (ax (ai (TO.qa F (ae (aC ?_)))))
 refine ck (fun(k:Nat) ρ O=>O=[]∧k≤xs.length∧xs.take k=ys.take k∧bZ [(0,(.slice xb xs.length xc)),(1,(.slice yb ys.length yc)),(5,vN k)] ρ) (fun k=>xs.length-k) 0 ?_ ?_
 ·exact⟨F,Nat.zero_le _,F,⟨F,F,F,trivial⟩⟩
 rintro k ρ O ⟨rfl,hk,he,hH⟩
 obtain⟨eP,rfl⟩:=hH.elim
 clear hH
 refine ax (ai (ah F (ah F (ad (bL cp F) (ad (bI F F) (ae (aw F (fun hc=>?_) (fun hc=>?_))))))))
 ·have me:k<xs.length:=by omega
  have eU:k<xs.length:=by omega
  have j3:k<ys.length:=by omega
  refine aq (ax (aC (ax ?_)))
  refine dO [(0,0),(1,0),(2,0),(3,0),(4,0),(5,0),(6,0),(7,0),(8,0)] ?_
  refine am F (aF F) (am F (aF F) (am F (db (i:=k) cp bQ F F (aB hX) eU (by rw[bF];omega)) (am F (dT (vs:=xs[k].cl) bK F bQ F F (Nat.succ_pos _) (aB hX) (fp (List.getElem?_eq_getElem eU))) ?_)))
  refine am F (aF F) (am F (aF F) (am F (db (i:=k) cp bQ F F (aB hY) j3 (by rw[bF];omega)) (am F (dT (vs:=ys[k].cl) bK F bQ F F (Nat.succ_pos _) (aB hY) (fp (List.getElem?_eq_getElem j3))) ?_)))
  refine am F (Bx (u:=xs[k]) (v:=ys[k]) F F) ?_
  refine bu ?_
  refine T.cond F (fun hc=>?_) (fun hc=>?_)
  ·refine ax ?_
   refine aH (TO.qa F (ae (az ?_)))
   refine aG (.bool false) Tryz.results15 F ?_
   exact⟨congrArg Value.bool (decide_eq_false (fun e=>(by simp at hc;exact hc:xs[k]≠ys[k]) (by subst e;rfl))).symm,F⟩
  refine aq (aH (ah F (ad (cj (a:=k) (b:=1) F F (by omega)) (TO.qa F (ae ?_)))))
  refine⟨k+1,by omega,F,by omega,?_,⟨F,F,F,trivial⟩⟩
  rw[List.take_succ_eq_append_getElem eU,List.take_succ_eq_append_getElem j3,he]
  exact congrArg _ (congrArg (fun z=>[z]) (by simpa using hc))
 have mR: ¬k<xs.length:=by omega
 refine bn ?_
 refine ai (TO.qa F (ae (az ?_)))
 refine aG (.bool true) Tryz.results15 F ?_
 exact⟨congrArg Value.bool (decide_eq_true (show xs=ys by rw[List.take_of_length_le (by omega),List.take_of_length_le (by omega)]at he;exact he)).symm,F⟩
theorem KE (w:World) [cG Tryz.prog w] (xb yb:Option Addr) (xc yc:Nat) (xs ys:List dE) (hX:Sl w xb (aT xs)) (hY:Sl w yb (aT ys)) (hb:xs.length<4611686018427387904):
  bs Tryz.prog 67 [.slice xb xs.length xc,.slice yb ys.length yc] w fun v N=>v=.bool (decide (xs=ys))∧N=[]:=by
 refine av func67 F ntmps67 F ?_
 refine ai (TO.qa F (ae (ax (ai (ah F (ad (bL cp F) (ah F (ad (bL cp F) (ad (cS F F) (ae (aw F (fun hc=>?_) (fun hc=>?_))))))))))))
 ·have jQ:xs.length≠ys.length:=by omega
  have ie:xs.length≠ys.length:=by omega
  refine ai (TO.qa F (ae (az ?_)))
  refine aG (.bool false) Tryz.results67 F ?_
  exact⟨congrArg Value.bool (decide_eq_false (fun e=>ie (by rw[e]))).symm,F⟩
 have tx: ¬xs.length≠ys.length:=by omega
 have ie:xs.length=ys.length:=by omega
 refine aq (ax (ai (ah F (ad (bL cp F) (ah F (ae (aC ?_)))))))
 refine ck (fun(k:Nat) ρ O=>O=[]∧k≤xs.length∧xs.take k=ys.take k∧bZ [(0,(.slice xb xs.length xc)),(1,(.slice yb ys.length yc)),(12,vI (xs.length:Int)),(13,vN k)] ρ) (fun k=>xs.length-k) 0 ?_ ?_
 ·exact⟨F,Nat.zero_le _,F,⟨F,F,F,F,trivial⟩⟩
 rintro k ρ O ⟨rfl,hk,he,hH⟩
 obtain⟨eP,rfl⟩:=hH.elim
 clear hH
 refine ai (ad (bI F F) (ae (ax (aw F (fun hc=>?_) (fun hc=>?_)))))
 ·have me:k<xs.length:=by omega
  have eU:k<xs.length:=by omega
  have j3:k<ys.length:=by omega
  refine aq (ax (aC (ai (ah F (TO.qa F (ae (ax ?_)))))))
  refine dO [(0,0),(1,0),(2,0),(3,0),(4,0),(5,0),(6,0),(7,0),(8,0)] ?_
  refine am F (aF F) (am F (aF F) (am F (db (i:=k) cp bQ F F (aB hX) eU (by rw[bF];omega)) (am F (dT (vs:=xs[k].cl) bK F bQ F F (Nat.succ_pos _) (aB hX) (fp (List.getElem?_eq_getElem eU))) ?_)))
  refine am F (aF F) (am F (aF F) (am F (db (i:=k) cp bQ F F (aB hY) j3 (by rw[bF];omega)) (am F (dT (vs:=ys[k].cl) bK F bQ F F (Nat.succ_pos _) (aB hY) (fp (List.getElem?_eq_getElem j3))) ?_)))
  refine am F (Bx (u:=xs[k]) (v:=ys[k]) F F) ?_
  refine bu ?_
  refine T.cond F (fun hc=>?_) (fun hc=>?_)
  ·refine ax ?_
   refine aH (TO.qa F (ae (az ?_)))
   refine aG (.bool false) Tryz.results67 F ?_
   exact⟨congrArg Value.bool (decide_eq_false (fun e=>(by simp at hc;exact hc:xs[k]≠ys[k]) (by subst e;rfl))).symm,F⟩
  refine aq (aH (ad (cj (a:=k) (b:=1) F F (by omega)) (ah F (ae ?_))))
  refine⟨k+1,by omega,F,by omega,?_,⟨F,F,F,F,trivial⟩⟩
  rw[List.take_succ_eq_append_getElem eU,List.take_succ_eq_append_getElem j3,he]
  exact congrArg _ (congrArg (fun z=>[z]) (by simpa using hc))
 have mR: ¬k<xs.length:=by omega
 refine bn ?_
 refine ai (TO.qa F (ae (az ?_)))
 refine aG (.bool true) Tryz.results67 F ?_
 exact⟨congrArg Value.bool (decide_eq_true (show xs=ys by rw[List.take_of_length_le (by omega),List.take_of_length_le (by omega)]at he;exact he)).symm,F⟩
end Go.Proofs.YtgdbfideeeegmaaGreatDoor

namespace Go.Lx
open Go.RowKit Go.Proofs.YtgdbfideeeegmaaGreatDoor
abbrev PP:=Nat×List dE
def cK (s:Nat) (x:dE):dE:=if x.op=7∨x.op=8 then {x with a:=x.a+s}else if x.op=4∨x.op=5∨x.op=6 then {x with a:=x.a+s,b:=x.b+s}else x
theorem Aw (x:dE):cK 0 x=x:=by
 unfold cK
 split
 ·simp
 ·split<;>simp
def wY (op:Nat) (out:List dE):PP:=if 64<out.length then(3,[])else(0,out)
def lE (op:Nat) (a:PP):PP:=if a.1=3 then(3,[])else wY op (a.2++[⟨op,0,0,(a.2.length:Int)-1,0⟩])
def kx (op:Nat) (a b:PP):PP:=if a.1=3∨b.1=3 then(3,[])else wY op (a.2++b.2.map (cK a.2.length)++[⟨op,0,0,(a.2.length:Int)-1,((a.2.length+b.2.length:Nat):Int)-1⟩])
def qC (a b:PP):PP:=if a.1=1 then b else if b.1=1∨(a.1≠3∧a.2=b.2)then a else kx 5 a b
def oK (a b:PP):PP:=if a.1=1∨b.1=2 then a else if b.1=1∨a.1=2 then b else kx 4 a b
def rF (a:PP):PP:=if a.1=1∨a.1=2 then(2,[⟨2,0,0,0,0⟩])else lE 8 a
structure ui (n:Nat) (x:dE):Prop where
 op:1≤x.op∧x.op≤8
 p:x.p<256
 nn:x.n<256
 a0:0≤x.a
 a1:x.a<n
 b0:0≤x.b
 b1:x.b<n
theorem ui.mono {n m:Nat} {x:dE} (h:ui n x) (hm:n≤m):ui m x:=⟨h.op,h.p,h.nn,h.a0,by have:=h.a1;omega,h.b0,by have:=h.b1;omega⟩
structure dv (a:PP):Prop where
 k:a.1≤3
 len:a.2.length≤64
 nil:a.1=3→a.2=[]
 ne:a.1≠3→a.2≠ []
 pc: ∀x∈a.2,ui a.2.length x
theorem dv.one {k o p n:Nat} (hk:k≤2) (ho:1≤o∧o≤8) (hp:p<256) (hn:n<256):dv (k,[⟨o,p,n,0,0⟩]):=
 ⟨Nat.le_trans hk (by decide),by simp,fun h=>absurd (show k=3 from h) (by omega),fun _=>by simp,fun x hx=>by rw[List.mem_singleton.1 hx];exact⟨ho,hp,hn,Int.le_refl _,Int.zero_lt_one,Int.le_refl _,Int.zero_lt_one⟩⟩
theorem dv.Ox:dv (3,[]):=⟨by decide,by simp,fun _=>rfl,fun h=>absurd F h,fun x hx=>by simp at hx⟩
theorem xJ {op:Nat} {out:List dE} (rB:out≠ []) (h: ∀x∈out,ui out.length x):dv (wY op out):=by
 unfold wY
 split
 ·exact .Ox
 ·rename_i hl
  exact⟨Nat.zero_le _,by show out.length≤64;omega,fun h=>absurd (show 0=3 from h) (by decide),fun _=>rB,h⟩
theorem dv.pos {a:PP} (h:dv a) (h3:a.1≠3):0<a.2.length:=List.length_pos_iff.2 (h.ne h3)
theorem CA {op:Nat} (ho:1≤op∧op≤8) {a:PP} (ha:dv a):dv (lE op a):=by
 unfold lE
 split
 ·exact .Ox
 ·rename_i h3
  have h0:=ha.pos h3
  refine xJ (by simp) fun x hx=>?_
  rw[List.length_append,List.length_singleton]
  rcases List.mem_append.1 hx with hx|hx
  ·exact(ha.pc x hx).mono (by omega)
  ·rw[List.mem_singleton.1 hx];exact⟨ho,by show 0<256;omega,by show 0<256;omega,by show 0≤(a.2.length:Int)-1;omega,by show(a.2.length:Int)-1<_;omega,Int.le_refl _,by show(0:Int)<_;omega⟩
theorem Oy {s n:Nat} {x:dE} (h:ui n x):ui (s+n) (cK s x):=by
 obtain⟨h1,h2,h3,h4,h5,h6,h7⟩:=h
 unfold cK
 split
 ·exact⟨h1,h2,h3,by show 0≤x.a+s;omega,by show x.a+s<_;omega,h6,by show x.b<_;omega⟩
 ·split
  ·exact⟨h1,h2,h3,by show 0≤x.a+s;omega,by show x.a+s<_;omega,by show 0≤x.b+s;omega,by show x.b+s<_;omega⟩
  ·exact⟨h1,h2,h3,h4,by omega,h6,by omega⟩
theorem vn {op:Nat} (ho:1≤op∧op≤8) {a b:PP} (ha:dv a) (hb:dv b):dv (kx op a b):=by
 unfold kx
 split
 ·exact .Ox
 ·rename_i h3
  have h0:=ha.pos (fun e=>h3 (.inl e))
  have h1:=hb.pos (fun e=>h3 (.inr e))
  refine xJ (by simp) fun x hx=>?_
  rw[List.length_append,List.length_append,List.length_map,List.length_singleton]
  rcases List.mem_append.1 hx with hx|hx
  ·rcases List.mem_append.1 hx with hx|hx
   ·exact(ha.pc x hx).mono (by omega)
   ·obtain⟨y,hy,rfl⟩:=List.mem_map.1 hx
    exact(Oy (hb.pc y hy)).mono (by omega)
  ·rw[List.mem_singleton.1 hx];exact⟨ho,by show 0<256;omega,by show 0<256;omega,by show 0≤(a.2.length:Int)-1;omega,by show(a.2.length:Int)-1<_;omega,by show(0:Int)≤((a.2.length+b.2.length:Nat):Int)-1;omega,by show((a.2.length+b.2.length:Nat):Int)-1<_;omega⟩
theorem sJ {a b:PP} (ha:dv a) (hb:dv b):dv (qC a b):=by
 unfold qC
 split
 ·exact hb
 ·split
  ·exact ha
  ·exact vn (by decide) ha hb
theorem ll {a b:PP} (ha:dv a) (hb:dv b):dv (oK a b):=by
 unfold oK
 split
 ·exact ha
 ·split
  ·exact hb
  ·exact vn (by decide) ha hb
theorem qD {a:PP} (ha:dv a):dv (rF a):=by
 unfold rF
 split
 ·exact .one (by decide) (by decide) (by decide) (by decide)
 ·exact CA (by decide) ha
structure ER where
 b:Option Addr
 c:Nat
 e:List dE
def ER.lZ (T:TypeId) (r:ER):Item:=ak r.b r.c T 5 (aT r.e)
def aY (T:TypeId) (p:List ER):List Item:=p.map (ER.lZ T)
def dn (p:List ER) (r:ER):Prop:=r∈p∨r.e=[]
theorem dn.sl {T:TypeId} {w base:World} {O:List Item} {p:List ER} {r:ER} (hI:Inv base O w) (hO: ∀it∈aY T p,it∈O) (h:dn p r):Sl w r.b (aT r.e):=by
 rcases h with h|h
 ·exact hI.eV (hO _ (List.mem_map.2 ⟨r,h,F⟩))
 ·rw[h];exact fun i hi=>absurd hi (by simp[aT])
theorem dn.mono {p q:List ER} {r:ER} (h:dn p r) (hq: ∀x∈p,x∈q):dn q r:=h.elim (fun h=>.inl (hq _ h)) .inr
theorem iw (T:TypeId) (p q:List ER):aY T (p++q)=aY T p++aY T q:=List.map_append
structure PR where
 k:Nat
 r:ER
instance:Inhabited PR:=⟨⟨0,none,0,[]⟩⟩
def PR.pp (x:PR):PP:=(x.k,x.r.e)
abbrev PR.cells (x:PR):List Value:=[.int .u8 (x.k:Int),.slice x.r.b x.r.e.length x.r.c]
abbrev PR.val (x:PR):Value:=.agg #[.int .u8 (x.k:Int),.slice x.r.b x.r.e.length x.r.c]
def dx (l:List PR):List Value:=l.flatMap PR.cells
theorem fS (l:List PR):(dx l).length=l.length*2:=by
 induction l with
 |nil=>rfl
 |cons p l ih=>simp only[dx,List.flatMap_cons,List.length_append,List.length_cons,List.length_nil]at ih⊢;rw[ih];omega
theorem mr {l:List PR}: ∀ {i:Nat} (hi:i<l.length) (j:Nat) (h:j<l[i].cells.length),(dx l)[i*2+j]? =some l[i].cells[j]:=by
 induction l with
 |nil=>intro i hi;simp at hi
 |cons p l ih=>
  intro i hi j hj
  show(p.cells++dx l)[i*2+j]? =_
  cases i with
  |zero=>rw[Nat.zero_mul,Nat.zero_add,List.getElem?_append_left (show j<p.cells.length from hj)];exact List.getElem?_eq_getElem hj
  |succ i=>
   have h3:p.cells.length=2:=rfl
   rw[List.getElem?_append_right (by rw[h3];omega),show(i+1)*2+j-p.cells.length=i*2+j by rw[h3];omega]
   exact ih (by simpa using hi) j hj
theorem rG (l:List PR) (c:PR):dx (l++[c])=dx l++c.cells:=by simp[dx]
def Re (T:TypeId) (a:List PR) (pp:PP) (v:Value) (N:List Item):Prop:= ∃(q:List ER) (c:PR),v=c.val∧N=aY T q∧c.pp=pp∧(dn q c.r∨ ∃x∈a,c.r=x.r)
theorem gg (a b:List dE):aT (a++b)=aT a++aT b:=List.flatMap_append
end Go.Lx

